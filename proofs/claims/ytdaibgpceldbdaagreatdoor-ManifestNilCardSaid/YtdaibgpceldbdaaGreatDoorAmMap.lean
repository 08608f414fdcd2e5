/- Maps whose keys are numbers, texts or bools; iterators over them: sound. -/
import Derived.Test.YtdaibgpceldbdaaGreatDoorAmOpU
namespace Go.Am
open Go

/-! ## entries -/
noncomputable def keyEq (kd : Kd) (a b : AV) : Option Bool :=
  match kd, a, b with
  | .int _, .int k a, .int k' b => Bool.rec none (some (eqI a b)) (keq k k')
  | .str, .str a, .str b => some (a.beq b)
  | .bool, .bool a, .bool b => some (Bool.rec (Bool.not b) b a)
  | _, _, _ => none
/-- where a key stands, and what stands there; none: it can't be told -/
noncomputable def aFind (kd : Kd) (k : AV) : List (AV × AV × Nat) → Nat → Option (Option (Nat × AV × Nat))
  | [], _ => some none
  | (k', v, n) :: r, i => match keyEq kd k k' with
    | some true => some (some (i, v, n))
    | some false => aFind kd k r (Nat.succ i)
    | none => none
def lrem {α : Type} : Nat → List α → List α
  | _, [] => []
  | 0, _ :: t => t
  | i + 1, a :: t => a :: lrem i t
theorem lrem_eq {α : Type} : ∀ (i : Nat) (l : List α), lrem i l = l.eraseIdx i
  | _, [] => by cases ‹Nat› <;> rfl
  | 0, _ :: _ => rfl
  | i + 1, a :: t => by simp [lrem, lrem_eq i t]
theorem EsRel.length {μ : Mu} : ∀ {es : List (AV × AV × Nat)} {l : List MapEntry}, EsRel μ es l → l.length = es.length
  | [], _, h => by rw [show _ = [] from h]; rfl
  | (k, v, n) :: es, l, h => by obtain ⟨e, l', rfl, _, _, _, h5⟩ := h; simp [h5.length]
theorem EsRel.get {μ : Mu} : ∀ {es : List (AV × AV × Nat)} {l : List MapEntry}, EsRel μ es l → ∀ {i : Nat} {k v : AV} {n : Nat}, es[i]? = some (k, v, n) → ∃ e, l[i]? = some e ∧ k.rel μ e.key ∧ v.rel μ e.val ∧ e.born = n
  | [], _, _, _, _, _, _, hi => by simp at hi
  | (k, v, n) :: es, l, h, i, k', v', n', hi => by
    obtain ⟨e, l', rfl, h2, h3, h4, h5⟩ := h
    cases i with
    | zero => simp at hi; obtain ⟨rfl, rfl, rfl⟩ := hi; exact ⟨e, rfl, h2, h3, h4⟩
    | succ i => simp at hi; obtain ⟨e', q1, q2⟩ := h5.get hi; exact ⟨e', by simpa using q1, q2⟩
theorem EsRel.append {μ : Mu} : ∀ {es es' : List (AV × AV × Nat)} {l l' : List MapEntry}, EsRel μ es l → EsRel μ es' l' → EsRel μ (es ++ es') (l ++ l')
  | [], _, _, _, h, h' => by rw [show _ = [] from h]; exact h'
  | (k, v, n) :: es, es', l, l', h, h' => by
    obtain ⟨e, r, rfl, h2, h3, h4, h5⟩ := h
    exact ⟨e, r ++ l', rfl, h2, h3, h4, h5.append h'⟩
theorem EsRel.set {μ : Mu} : ∀ {es : List (AV × AV × Nat)} {l : List MapEntry}, EsRel μ es l → ∀ {i : Nat} {k v : AV} {n : Nat} {e : MapEntry}, k.rel μ e.key → v.rel μ e.val → e.born = n → EsRel μ (es.set i (k, v, n)) (l.set i e)
  | [], _, h, _, _, _, _, _, _, _, _ => by rw [show _ = [] from h]; rfl
  | (k, v, n) :: es, l, h, i, k', v', n', e', a, b, c => by
    obtain ⟨e, l', rfl, h2, h3, h4, h5⟩ := h
    cases i with
    | zero => exact ⟨e', l', rfl, a, b, c, h5⟩
    | succ i => exact ⟨e, l'.set i e', rfl, h2, h3, h4, h5.set a b c⟩
theorem EsRel.erase {μ : Mu} : ∀ {es : List (AV × AV × Nat)} {l : List MapEntry}, EsRel μ es l → ∀ {i : Nat}, EsRel μ (es.eraseIdx i) (l.eraseIdx i)
  | [], _, h, _ => by rw [show _ = [] from h]; rfl
  | (k, v, n) :: es, l, h, i => by
    obtain ⟨e, l', rfl, h2, h3, h4, h5⟩ := h
    cases i with
    | zero => exact h5
    | succ i => exact ⟨e, l'.eraseIdx i, rfl, h2, h3, h4, h5.erase⟩

/-! ## entries in an order of our own -/
noncomputable def aFindC (kd : Kd) (k : AV) : List (AV × AV) → Option (Option AV)
  | [] => some none
  | p :: r => match keyEq kd k p.1, aFindC kd k r with
    | some true, some _ => some (some p.2)
    | some false, some x => some x
    | _, _ => none
noncomputable def keyLt : AV → AV → Bool
  | .int _ a, .int _ b => ltI a b
  | .str a, .str b => a.lt b
  | .bool a, .bool b => Bool.rec b false a
  | _, _ => false
/-- put where it belongs -/
noncomputable def insC (p : AV × AV) : List (AV × AV) → List (AV × AV)
  | [] => [p]
  | q :: r => match keyLt p.1 q.1 with
    | true => p :: q :: r
    | false => q :: insC p r
noncomputable def replC (kd : Kd) (k v : AV) : List (AV × AV) → List (AV × AV)
  | [] => []
  | q :: r => match keyEq kd k q.1 with
    | some true => (k, v) :: replC kd k v r
    | _ => q :: replC kd k v r
noncomputable def delC (kd : Kd) (k : AV) : List (AV × AV) → List (AV × AV)
  | [] => []
  | q :: r => match keyEq kd k q.1 with
    | some true => delC kd k r
    | _ => q :: delC kd k r
theorem eqI_iff {a b : Int} : eqI a b = true ↔ a = b := by rw [eqI_eq]; simp
theorem Str.beq_iff {a b : Str} : a.beq b = true ↔ a = b := by
  cases a with | mk l v => cases b with | mk l' v' =>
  unfold Str.beq
  simp [Str.brec]
theorem keyEq_eq {kd : Kd} {a b : AV} {q : Bool} (h : keyEq kd a b = some q) : q = true ↔ a = b := by
  unfold keyEq at h
  split at h
  · rw [Str.brec] at h
    split at h
    · rename_i hk; rw [keq_iff] at hk; subst hk
      injection h with h; subst h
      rw [eqI_iff]; simp
    · cases h
  · injection h with h; subst h
    rw [Str.beq_iff]; simp
  · rename_i a b
    injection h with h; subst h
    cases a <;> cases b <;> simp
  · cases h
theorem aFindC_all {kd : Kd} {k : AV} : ∀ {es : List (AV × AV)} {x : Option AV}, aFindC kd k es = some x → ∀ p ∈ es, ∃ q, keyEq kd k p.1 = some q
  | [], _, _, p, hp => by cases hp
  | e :: r, x, h, p, hp => by
    unfold aFindC at h
    split at h
    · rename_i h1 h2
      rcases List.mem_cons.1 hp with rfl | hp
      · exact ⟨_, h1⟩
      · exact aFindC_all h2 p hp
    · rename_i h1 h2
      rcases List.mem_cons.1 hp with rfl | hp
      · exact ⟨_, h1⟩
      · exact aFindC_all h2 p hp
    · cases h
theorem aFindC_none {kd : Kd} {k : AV} : ∀ {es : List (AV × AV)}, aFindC kd k es = some none → ∀ p ∈ es, p.1 ≠ k
  | [], _, p, hp => by cases hp
  | e :: r, h, p, hp => by
    unfold aFindC at h
    split at h
    · cases h
    · rename_i x h1 h2
      injection h with h; subst h
      rcases List.mem_cons.1 hp with rfl | hp
      · intro e'; have := (keyEq_eq h1).2 e'.symm; cases this
      · exact aFindC_none h2 p hp
    · cases h
theorem aFindC_some {kd : Kd} {k v : AV} : ∀ {es : List (AV × AV)}, aFindC kd k es = some (some v) → (k, v) ∈ es
  | [], h => by cases h
  | e :: r, h => by
    unfold aFindC at h
    split at h
    · rename_i h1 h2
      injection h with h; injection h with h; subst h
      have := (keyEq_eq h1).1 rfl
      rw [this]; exact List.mem_cons_self
    · rename_i x h1 h2
      injection h with h; subst h
      exact List.mem_cons_of_mem _ (aFindC_some h2)
    · cases h
theorem aFind_told {kd : Kd} {k : AV} : ∀ {es : List (AV × AV × Nat)} (i : Nat), (∀ p ∈ es, ∃ q, keyEq kd k p.1 = some q) →
    (aFind kd k es i = some none ∧ ∀ p ∈ es, p.1 ≠ k) ∨ ∃ j v n, aFind kd k es i = some (some (i + j, v, n)) ∧ es[j]? = some (k, v, n)
  | [], i, _ => .inl ⟨rfl, fun p hp => by cases hp⟩
  | (k', v, n) :: r, i, h => by
    obtain ⟨q, hq⟩ := h _ List.mem_cons_self
    have hq : keyEq kd k k' = some q := hq
    have he := keyEq_eq hq
    cases q with
    | true =>
      have := he.1 rfl; subst this
      exact .inr ⟨0, v, n, by unfold aFind; rw [hq]; rfl, rfl⟩
    | false =>
      have hne : k' ≠ k := fun e => by have := he.2 e.symm; cases this
      rcases aFind_told (es := r) (Nat.succ i) (fun p hp => h p (List.mem_cons_of_mem _ hp)) with ⟨h1, h2⟩ | ⟨j, v', n', h1, h2⟩
      · refine .inl ⟨by unfold aFind; rw [hq]; exact h1, fun p hp => ?_⟩
        rcases List.mem_cons.1 hp with rfl | hp
        · exact hne
        · exact h2 p hp
      · refine .inr ⟨j + 1, v', n', ?_, by simpa using h2⟩
        unfold aFind; rw [hq]; simp only; rw [h1]; congr 2; simp only [Prod.mk.injEq, and_true]; omega
theorem key_uniq {es : List (AV × AV)} (hk : (es.map (·.1)).Nodup) {k v v' : AV} (h : (k, v) ∈ es) (h' : (k, v') ∈ es) : v = v' := by
  induction es with
  | nil => cases h
  | cons e r ih =>
    rw [List.map_cons, List.nodup_cons] at hk
    rcases List.mem_cons.1 h with rfl | g <;> rcases List.mem_cons.1 h' with g' | g'
    · cases g'; rfl
    · exact absurd (List.mem_map.2 ⟨_, g', rfl⟩) hk.1
    · subst g'; exact absurd (show k ∈ r.map (·.1) from List.mem_map.2 ⟨(k, v), g, rfl⟩) hk.1
    · exact ih hk.2 g g'
/-- what is found in our order is found as the entries stand -/
theorem Shown.find {es : List (AV × AV)} {es' : List (AV × AV × Nat)} {clock : Nat} (s : Shown es es' clock) {kd : Kd} {k : AV} {x : Option AV} (h : aFindC kd k es = some x) :
    match x with
    | none => aFind kd k es' 0 = some none
    | some v => ∃ j n, aFind kd k es' 0 = some (some (j, v, n)) ∧ es'[j]? = some (k, v, n) := by
  have hm : ∀ p ∈ es', (p.1, p.2.1) ∈ es := fun p hp => s.perm.mem_iff.1 (List.mem_map.2 ⟨p, hp, rfl⟩)
  have hall : ∀ p ∈ es', ∃ q, keyEq kd k p.1 = some q := fun p hp => aFindC_all h _ (hm p hp)
  rcases aFind_told (es := es') 0 hall with ⟨h1, h2⟩ | ⟨j, v', n, h1, h2⟩
  · cases x with
    | none => exact h1
    | some v =>
      have := s.perm.mem_iff.2 (aFindC_some h)
      obtain ⟨p, hp, hp2⟩ := List.mem_map.1 this
      exact absurd (congrArg Prod.fst hp2) (h2 p hp)
  · have hv := hm _ (List.mem_of_getElem? h2)
    cases x with
    | none => exact absurd rfl (aFindC_none h _ hv)
    | some v =>
      have := key_uniq s.keys hv (aFindC_some h)
      have this : v' = v := this
      subst this
      exact ⟨j, n, by rw [h1]; simp, h2⟩
theorem erase_perm {α : Type} : ∀ {l : List α} {j : Nat} {a : α}, l[j]? = some a → l.Perm (a :: l.eraseIdx j)
  | [], j, a, h => by simp at h
  | x :: l, 0, a, h => by simp at h; subst h; exact .refl _
  | x :: l, j + 1, a, h => by
    have h : l[j]? = some a := by simpa using h
    exact ((erase_perm h).cons x).trans (.swap _ _ _)
theorem set_perm {α : Type} (b : α) : ∀ {l : List α} {j : Nat}, j < l.length → (l.set j b).Perm (b :: l.eraseIdx j)
  | [], j, h => by simp at h
  | x :: l, 0, h => .refl _
  | x :: l, j + 1, h => by
    have h : j < l.length := by simpa using h
    exact ((set_perm b h).cons x).trans (.swap _ _ _)
theorem insC_perm (p : AV × AV) : ∀ (l : List (AV × AV)), (insC p l).Perm (p :: l)
  | [] => .refl _
  | q :: r => by
    unfold insC; split
    · exact .refl _
    · exact ((insC_perm p r).cons q).trans (.swap p q r)
theorem replC_eq {kd : Kd} {k v : AV} : ∀ {l : List (AV × AV)}, (∀ p ∈ l, ∃ q, keyEq kd k p.1 = some q) → ∀ {l' : List (AV × AV)}, l'.Perm l → (l.map (·.1)).Nodup → ∀ {j : Nat} {v0 : AV}, l'[j]? = some (k, v0) → (l'.set j (k, v)).Perm (replC kd k v l) := by
  have none_ : ∀ (l : List (AV × AV)), (∀ p ∈ l, ∃ q, keyEq kd k p.1 = some q) → (∀ p ∈ l, p.1 ≠ k) → replC kd k v l = l := by
    intro l
    induction l with
    | nil => intro _ _; rfl
    | cons q r ih =>
      intro hall hne
      obtain ⟨b, hb⟩ := hall q List.mem_cons_self
      have : b = false := by
        cases b with
        | false => rfl
        | true => exact absurd ((keyEq_eq hb).1 rfl).symm (hne q List.mem_cons_self)
      subst this
      unfold replC; rw [hb]; simp only
      rw [ih (fun p hp => hall p (List.mem_cons_of_mem _ hp)) fun p hp => hne p (List.mem_cons_of_mem _ hp)]
  have split_ : ∀ (l : List (AV × AV)), (∀ p ∈ l, ∃ q, keyEq kd k p.1 = some q) → (l.map (·.1)).Nodup → ∀ (v0 : AV) (A : List (AV × AV)), ((k, v0) :: A).Perm l → ((k, v) :: A).Perm (replC kd k v l) := by
    intro l
    induction l with
    | nil => intro _ _ v0 A h; have := h.length_eq; simp at this
    | cons q r ih =>
      intro hall hn v0 A h
      rw [List.map_cons, List.nodup_cons] at hn
      obtain ⟨b, hb⟩ := hall q List.mem_cons_self
      unfold replC; rw [hb]
      cases b with
      | true =>
        have hk := (keyEq_eq hb).1 rfl
        simp only
        rw [none_ r (fun p hp => hall p (List.mem_cons_of_mem _ hp)) fun p hp e => hn.1 (by rw [← hk, ← e]; exact List.mem_map.2 ⟨p, hp, rfl⟩)]
        have hq : q = (k, v0) := by
          rcases List.mem_cons.1 (h.mem_iff.1 List.mem_cons_self) with e | e
          · exact e.symm
          · exact absurd (List.mem_map.2 ⟨_, e, hk⟩) hn.1
        subst hq
        exact (h.cons_inv).cons _
      | false =>
        simp only
        have hk : q.1 ≠ k := fun e => by have := (keyEq_eq hb).2 e.symm; cases this
        have hq : q ∈ (k, v0) :: A := h.mem_iff.2 List.mem_cons_self
        rcases List.mem_cons.1 hq with e | hq
        · subst e; exact absurd rfl hk
        · obtain ⟨A1, A2, rfl⟩ := List.append_of_mem hq
          have hp : ((k, v0) :: (A1 ++ A2)).Perm r := by
            refine List.Perm.cons_inv (a := q) (.trans ?_ h)
            exact (List.Perm.swap _ _ _).trans (.cons _ (List.perm_middle.symm))
          have := ih (fun p hp => hall p (List.mem_cons_of_mem _ hp)) hn.2 v0 (A1 ++ A2) hp
          refine .trans ?_ (this.cons q)
          exact .trans (.cons _ List.perm_middle) (.swap _ _ _)
  intro l hall l' hp hn j v0 hj
  have hjl : j < l'.length := (List.getElem?_eq_some_iff.1 hj).1
  have e1 := erase_perm hj
  have e2 := set_perm (k, v) hjl
  exact e2.trans (split_ l hall hn v0 _ (e1.symm.trans hp))
theorem delC_perm {kd : Kd} {k : AV} {l : List (AV × AV)} (hall : ∀ p ∈ l, ∃ q, keyEq kd k p.1 = some q) (hn : (l.map (·.1)).Nodup) {v0 : AV} {A : List (AV × AV)} (h : ((k, v0) :: A).Perm l) : A.Perm (delC kd k l) := by
  have none_ : ∀ (l : List (AV × AV)), (∀ p ∈ l, ∃ q, keyEq kd k p.1 = some q) → (∀ p ∈ l, p.1 ≠ k) → delC kd k l = l := by
    intro l
    induction l with
    | nil => intro _ _; rfl
    | cons q r ih =>
      intro hall hne
      obtain ⟨b, hb⟩ := hall q List.mem_cons_self
      have : b = false := by
        cases b with
        | false => rfl
        | true => exact absurd ((keyEq_eq hb).1 rfl).symm (hne q List.mem_cons_self)
      subst this
      unfold delC; rw [hb]; simp only
      rw [ih (fun p hp => hall p (List.mem_cons_of_mem _ hp)) fun p hp => hne p (List.mem_cons_of_mem _ hp)]
  induction l generalizing A with
  | nil => have := h.length_eq; simp at this
  | cons q r ih =>
    rw [List.map_cons, List.nodup_cons] at hn
    obtain ⟨b, hb⟩ := hall q List.mem_cons_self
    unfold delC; rw [hb]
    cases b with
    | true =>
      have hk := (keyEq_eq hb).1 rfl
      simp only
      rw [none_ r (fun p hp => hall p (List.mem_cons_of_mem _ hp)) fun p hp e => hn.1 (by rw [← hk, ← e]; exact List.mem_map.2 ⟨p, hp, rfl⟩)]
      have hq : q = (k, v0) := by
        rcases List.mem_cons.1 (h.mem_iff.1 List.mem_cons_self) with e | e
        · exact e.symm
        · exact absurd (List.mem_map.2 ⟨_, e, hk⟩) hn.1
      subst hq
      exact h.cons_inv
    | false =>
      simp only
      have hk : q.1 ≠ k := fun e => by have := (keyEq_eq hb).2 e.symm; cases this
      have hq : q ∈ (k, v0) :: A := h.mem_iff.2 List.mem_cons_self
      rcases List.mem_cons.1 hq with e | hq
      · subst e; exact absurd rfl hk
      · obtain ⟨A1, A2, rfl⟩ := List.append_of_mem hq
        have hp : ((k, v0) :: (A1 ++ A2)).Perm r := by
          refine List.Perm.cons_inv (a := q) (.trans ?_ h)
          exact (List.Perm.swap _ _ _).trans (.cons _ (List.perm_middle.symm))
        exact List.perm_middle.trans ((ih (fun p hp => hall p (List.mem_cons_of_mem _ hp)) hn.2 hp).cons q)

theorem replC_keys {kd : Kd} {k v : AV} : ∀ (l : List (AV × AV)), (replC kd k v l).map (·.1) = l.map (·.1)
  | [] => rfl
  | q :: r => by
    unfold replC; split
    · rename_i h
      have := (keyEq_eq h).1 rfl
      simp [replC_keys r, this]
    · simp [replC_keys r]
theorem Shown.set {es : List (AV × AV)} {es' : List (AV × AV × Nat)} {clock : Nat} (s : Shown es es' clock) {kd : Kd} {k v v0 : AV} {j n : Nat} (h : aFindC kd k es = some (some v0)) (hj : es'[j]? = some (k, v0, n)) : Shown (replC kd k v es) (es'.set j (k, v, n)) clock := by
  refine ⟨?_, by rw [replC_keys]; exact s.keys, ?_, ?_⟩
  · rw [List.map_set]
    exact replC_eq (aFindC_all h) s.perm s.keys (v0 := v0) (by rw [List.getElem?_map, hj]; rfl)
  · have : (es'.set j (k, v, n)).map (·.2.2) = es'.map (·.2.2) := by
      rw [List.map_set]
      apply List.ext_getElem?
      intro q
      rw [List.getElem?_set]
      split
      · rename_i e; subst e
        split
        · rw [List.getElem?_map, hj]; rfl
        · rename_i hl; simp at hl; rw [List.getElem?_eq_none (by simpa using hl)]
      · rfl
    rw [this]; exact s.stamps
  · intro e he
    rcases List.mem_or_eq_of_mem_set he with he | rfl
    · exact s.low e he
    · exact s.low (k, v0, n) (List.mem_of_getElem? hj)
theorem Shown.push {es : List (AV × AV)} {es' : List (AV × AV × Nat)} {clock : Nat} (s : Shown es es' clock) {kd : Kd} {k v : AV} (h : aFindC kd k es = some none) : Shown (insC (k, v) es) (es' ++ [(k, v, clock)]) (clock + 1) := by
  refine ⟨?_, ?_, ?_, ?_⟩
  · rw [List.map_append]
    exact (List.perm_append_comm.trans (s.perm.cons (k, v))).trans (insC_perm (k, v) es).symm
  · refine (List.Perm.nodup_iff ((insC_perm (k, v) es).map _)).2 ?_
    rw [List.map_cons, List.nodup_cons]
    refine ⟨fun hm => ?_, s.keys⟩
    obtain ⟨p, hp, e⟩ := List.mem_map.1 hm
    exact aFindC_none h p hp e
  · rw [List.map_append, List.nodup_append]
    refine ⟨s.stamps, by simp, ?_⟩
    intro a ha b hb
    obtain ⟨e, he, rfl⟩ := List.mem_map.1 ha
    simp at hb; subst hb
    have := s.low e he; omega
  · intro e he
    rcases List.mem_append.1 he with he | he
    · have := s.low e he; omega
    · simp at he; subst he; show clock < _; omega
theorem Shown.erase {es : List (AV × AV)} {es' : List (AV × AV × Nat)} {clock : Nat} (s : Shown es es' clock) {kd : Kd} {k v0 : AV} {j n : Nat} (h : aFindC kd k es = some (some v0)) (hj : es'[j]? = some (k, v0, n)) : Shown (delC kd k es) (es'.eraseIdx j) clock := by
  have e1 : (((k, v0) : AV × AV) :: (es'.eraseIdx j).map fun e => (e.1, e.2.1)).Perm es := .trans (((erase_perm hj).map (fun e : AV × AV × Nat => (e.1, e.2.1))).symm) s.perm
  have e2 := delC_perm (aFindC_all h) s.keys e1
  refine ⟨e2, ?_, ?_, fun e he => s.low e (List.mem_of_mem_eraseIdx he)⟩
  · refine (List.Perm.nodup_iff (e2.map _)).1 ?_
    have := (List.Perm.nodup_iff (e1.map (·.1))).2 s.keys
    rw [List.map_cons, List.nodup_cons] at this
    exact this.2
  · exact s.stamps.sublist ((List.eraseIdx_sublist _ _).map _)
theorem Shown.length {es : List (AV × AV)} {es' : List (AV × AV × Nat)} {clock : Nat} (s : Shown es es' clock) : es.length = es'.length := by
  have := s.perm.length_eq; simpa using this.symm

theorem ba_beq (a b : ByteArray) : (a == b) = decide (a = b) := by
  cases a with | mk a => cases b with | mk b =>
  show (a == b) = _
  rw [Bool.eq_iff_iff]; simp
section
variable {P : Program} {T : Ty} (hT : TyOk P T) {μ : Mu}

theorem keyEq_ok {kd : Kd} {d : TypeDesc} (hd : KdRel kd d) {a b : AV} {x y : Value} {q : Bool} (h : keyEq kd a b = some q) (ha : a.rel μ x) (hb : b.rel μ y) :
    Instr.sameNow d x y = some q ∧ (q = true → Instr.sameBits 10000 y x = true) := by
  unfold keyEq at h
  split at h
  · rename_i k0 k a k' b
    rw [Str.brec] at h
    split at h
    · rename_i hk; rw [keq_iff] at hk; subst hk
      injection h with h; subst h
      simp only [AV.rel] at ha hb; subst ha hb
      have hd' : d = .int k0 := hd
      subst hd'
      rw [eqI_eq]
      refine ⟨by simp [Instr.sameNow], fun e => ?_⟩
      simp only [beq_iff_eq] at e
      subst e
      rw [Instr.sameBits]; simp
    · cases h
  · rename_i a b
    injection h with h; subst h
    simp only [AV.rel] at ha hb
    obtain ⟨s, rfl, rfl⟩ := ha
    obtain ⟨t, rfl, rfl⟩ := hb
    have hd' : d = .string := hd
    subst hd'
    have e : (s == t) = (Str.of s.data.toList).beq (Str.of t.data.toList) := by
      rw [Str.beq_of, ba_beq, Bool.eq_iff_iff, decide_eq_true_eq, beq_iff_eq]
      constructor
      · rintro rfl; rfl
      · intro h; cases s; cases t; simp only at h; rw [Array.toList_inj.1 h]
    refine ⟨by simp [Instr.sameNow, e], fun h => ?_⟩
    rw [← e, ba_beq, decide_eq_true_eq] at h; subst h
    rw [Instr.sameBits, ba_beq]; simp
  · rename_i a b
    injection h with h; subst h
    simp only [AV.rel] at ha hb; subst ha hb
    have hd' : d = .bool := hd
    subst hd'
    refine ⟨by cases a <;> cases b <;> rfl, fun h => ?_⟩
    cases a <;> cases b <;> first | rfl | cases h
  · cases h

theorem aFind_ok {kd : Kd} {d : TypeDesc} (hd : KdRel kd d) {k : AV} {x : Value} (hk : k.rel μ x) : ∀ {es : List (AV × AV × Nat)} {l : List MapEntry} {i : Nat} {r : Option (Nat × AV × Nat)}, aFind kd k es i = some r → EsRel μ es l →
    match r with
    | none => Instr.findNow d x l i = some none
    | some (j, v, n) => ∃ e, Instr.findNow d x l i = some (some (j, e.val)) ∧ i ≤ j ∧ l[j - i]? = some e ∧ v.rel μ e.val ∧ e.born = n ∧ Instr.sameBits 10000 e.key x = true
  | [], l, i, r, h, hr => by
    rw [show l = [] from hr]
    injection h with h; subst h; rfl
  | (k', v, n) :: es, l, i, r, h, hr => by
    obtain ⟨e, l', rfl, h2, h3, h4, h5⟩ := hr
    unfold aFind at h
    split at h
    · rename_i hq
      obtain ⟨q1, q2⟩ := keyEq_ok hd hq hk h2
      injection h with h; subst h
      exact ⟨e, by simp [Instr.findNow, q1], Nat.le_refl _, by simp, h3, h4, q2 rfl⟩
    · rename_i hq
      obtain ⟨q1, _⟩ := keyEq_ok hd hq hk h2
      have ih := aFind_ok hd hk h h5
      cases r with
      | none => simp only [Instr.findNow, q1]; exact ih
      | some p =>
        obtain ⟨j, v', n'⟩ := p
        obtain ⟨e', e1, e2, e3, e4⟩ := ih
        refine ⟨e', by simp only [Instr.findNow, q1]; exact e1, by omega, ?_, e4⟩
        rw [show j - i = (j - Nat.succ i) + 1 from by omega]; simpa using e3
    · cases h

def Kd.scalar : Kd → Bool
  | .bool | .int _ | .str => true
  | _ => false
theorem checkKey_ok {t : Nat} {d : TypeDesc} (hd : P.underlying t = some d) {kd : Kd} (hk : KdRel kd d) (hs : kd.scalar = true) (b : Bool) (v : Value) (w : World) : (Instr.checkKey b 10000 t v).run P w = .ok () w := by
  rw [show (10000 : Nat) = 9999 + 1 from rfl, Instr.checkKey]
  simp only [Sem.run_bind, run_underlying hd, Result.andThen_ok]
  cases kd <;> simp only [Kd.scalar, Bool.false_eq_true] at hs <;> simp only [KdRel] at hk <;> subst hk <;> rfl

/-! ## the operations -/
/-- a type's zero, as one value -/
def aZero (T : Ty) (t : Nat) : Option AV :=
  match (T t).kd.agg with
  | true => some (.agg (T t).zero)
  | false => match (T t).zero with
    | [z] => match z with
      | .agg _ => none
      | .tuple _ => none
      | z => some z
    | _ => none
noncomputable def aLook (T : Ty) (k e : Nat) (ok : Bool) (es : List (AV × AV × Nat)) (i : AV) : Option AV :=
  match (T k).kd.scalar && (T e).kd.known with
  | true => match aFind (T k).kd i es 0 with
    | some (some (_, v, _)) => some (match ok with
      | true => .tuple [v, .bool true]
      | false => v)
    | some none => match aZero T e with
      | some z => some (match ok with
        | true => .tuple [z, .bool false]
        | false => z)
      | none => none
    | none => none
  | false => none
noncomputable def aLookC (T : Ty) (k e : Nat) (ok : Bool) (es : List (AV × AV)) (i : AV) : Option AV :=
  match (T k).kd.scalar && (T e).kd.known with
  | true => match aFindC (T k).kd i es with
    | some (some v) => some (match ok with
      | true => .tuple [v, .bool true]
      | false => v)
    | some none => match aZero T e with
      | some z => some (match ok with
        | true => .tuple [z, .bool false]
        | false => z)
      | none => none
    | none => none
  | false => none
theorem aLookC_imp {T : Ty} {k e : Nat} {ok : Bool} {es : List (AV × AV)} {es' : List (AV × AV × Nat)} {clock : Nat} (s : Shown es es' clock) {i r : AV} (h : aLookC T k e ok es i = some r) : aLook T k e ok es' i = some r := by
  unfold aLookC at h
  unfold aLook
  split at h
  · rename_i hc
    split at h
    · rename_i v hf
      obtain ⟨j, n, h1, _⟩ := s.find hf
      simp only [h1]; exact h
    · rename_i hf
      have h1 := s.find hf
      simp only at h1
      simp only [h1]; exact h
    · cases h
  · cases h
noncomputable def aLookup (T : Ty) (k e : Nat) (ok : Bool) (x i : AV) (h : H) : Option AV :=
  match x with
  | .nilm => aLook T k e ok [] i
  | .map id => match h.get id with
    | .amap es _ => aLook T k e ok es i
    | .smap es => aLookC T k e ok es i
    | _ => none
  | _ => none
noncomputable def aMapPut (T : Ty) (k : Nat) (m i v : AV) (h : H) : Option H :=
  match m with
  | .map id => match h.get id with
    | .amap es clock => match (T k).kd.scalar with
      | true => match aFind (T k).kd i es 0 with
        | some (some (j, _, n)) => h.put id (.amap (lset es j (i, v, n)) clock)
        | some none => h.put id (.amap (lapp es [(i, v, clock)]) (Nat.succ clock))
        | none => none
      | false => none
    | .smap es => match (T k).kd.scalar with
      | true => match aFindC (T k).kd i es with
        | some (some _) => h.put id (.smap (replC (T k).kd i v es))
        | some none => h.put id (.smap (insC (i, v) es))
        | none => none
      | false => none
    | _ => none
  | _ => none
noncomputable def aMapDel (T : Ty) (k : Nat) (m i : AV) (h : H) : Option H :=
  match (T k).kd.scalar with
  | true => match m with
    | .nilm => some h
    | .map id => match h.get id with
      | .amap es clock => match aFind (T k).kd i es 0 with
        | some (some (j, _, _)) => h.put id (.amap (lrem j es) clock)
        | some none => h.put id (.amap es clock)
        | none => none
      | .smap es => match aFindC (T k).kd i es with
        | some (some _) => h.put id (.smap (delC (T k).kd i es))
        | some none => h.put id (.smap es)
        | none => none
      | _ => none
    | _ => none
  | false => none
noncomputable def aLenMap (m : AV) (h : H) : Option AV :=
  match m with
  | .nilm => some (.int .i64 (Int.ofNat 0))
  | .map id => match h.get id with
    | .amap es _ => some (.int .i64 (Int.ofNat es.length))
    | .smap es => some (.int .i64 (Int.ofNat es.length))
    | _ => none
  | _ => none

theorem getObj_run {w : World} {b : Nat} {o : Obj} (h : w.heap[b]? = some o) (hc : ∀ c e f, o ≠ .cells c e f) : (getObj b).run P w = .ok o w := by
  show Sem.run P (.getObj b .pure) w = _
  simp only [Sem.run, h]
theorem setObj_run {w : World} {b : Nat} {o o' : Obj} (h : w.heap[b]? = some o) (hc : ∀ c e f, o ≠ .cells c e f) : (setObj b o').run P w = .ok () { w with heap := w.heap.setIfInBounds b o' } := by
  show Sem.run P (.setObj b o' (.pure ())) w = _
  simp only [Sem.run, h]

include hT in
theorem zero_ok {t : Nat} (hk : (T t).kd.known = true) {z : AV} (h : aZero T t = some z) (w : World) : ∃ v, (zeroValue t).run P w = .ok v w ∧ z.rel μ v := by
  unfold aZero at h
  split at h
  · rename_i ha
    obtain ⟨v, h1, h2, h3⟩ := zero_run (w := w) hT hk
    injection h with h; subst h
    obtain ⟨cs, rfl⟩ := h3 ha
    refine ⟨_, h1, ?_⟩
    simp only [AV.rel]
    exact ⟨cs, rfl, AV.relL_mono (μ := noMu) (fun _ _ h => by cases h) _ _ h2⟩
  · rename_i ha
    obtain ⟨v, h1, h2⟩ := zero_run1 (w := w) hT hk ha
    split at h
    · rename_i z' hz
      rw [hz] at h2
      have hu : z'.rel μ v := AV.rel_mono (μ := noMu) (fun _ _ h => by cases h) _ _ (AV.relL_cons_cons.1 h2).1
      split at h
      · cases h
      · cases h
      · injection h with h; subst h; exact ⟨v, h1, hu⟩
    · cases h

include hT in
theorem look_ok {k e : Nat} {ok : Bool} {es : List (AV × AV × Nat)} {l : Array MapEntry} {i r : AV} {y : Value} (h : aLook T k e ok es i = some r) (hes : EsRel μ es l.toList) (hi : i.rel μ y) (w : World) :
    ∃ v, (do
      Instr.checkKey l.isEmpty 10000 k y
      let (v, o) ← match ← Instr.findKey k y l.toList with
        | some (_, v) => pure (v, true)
        | none => pure (← zeroValue e, false)
      pure (if ok then .tuple #[v, .bool o] else v) : Sem Value).run P w = .ok v w ∧ r.rel μ v := by
  unfold aLook at h
  split at h
  · rename_i hc
    rw [Bool.and_eq_true] at hc
    obtain ⟨d, hd, hkd⟩ := und_of hT (t := k) rfl (by revert hc; cases (T k).kd <;> simp [Kd.scalar, Kd.known])
    have hck := checkKey_ok (P := P) hd hkd hc.1 l.isEmpty y w
    have fin : ∀ {v : Value} {a : AV} {o : Bool}, a.rel μ v → (match ok with | true => AV.tuple [a, .bool o] | false => a).rel μ (if ok then .tuple #[v, .bool o] else v) := fun ha => by
      cases ok with
      | false => exact ha
      | true => simp only [AV.rel]; exact ⟨_, rfl, AV.relL_cons_cons.2 ⟨ha, AV.relL_cons_cons.2 ⟨by simp [AV.rel], AV.relL_nil.2 rfl⟩⟩⟩
    split at h
    · rename_i j v n hf
      injection h with h; subst h
      obtain ⟨e', e1, _, _, e4, _⟩ := aFind_ok hkd hi hf hes
      refine ⟨_, ?_, fin (o := true) e4⟩
      simp only [Sem.run_bind, hck, Result.andThen_ok, Instr.findKey, run_underlying hd, e1, Sem.run_pure]
    · rename_i hf
      have e1 := aFind_ok hkd hi hf hes
      simp only at e1
      split at h
      · rename_i z hz
        injection h with h; subst h
        obtain ⟨v, z1, z2⟩ := zero_ok (μ := μ) hT hc.2 hz w
        refine ⟨_, ?_, fin (o := false) z2⟩
        simp only [Sem.run_bind, hck, Result.andThen_ok, Instr.findKey, run_underlying hd, e1, Sem.run_pure, z1]
      · cases h
    · cases h
  · cases h

include hT in
theorem lookup_ok {t k e : Nat} {ok : Bool} {x i r : AV} {vx vi : Value} {h : H} {w : World} (ht : (T t).kd = .map k e) (hR : Rel μ h w) (ee : aLookup T k e ok x i h = some r) (hx : x.rel μ vx) (hi : i.rel μ vi) :
    ∃ v, (Instr.lookup t vx vi ok).run P w = .ok v w ∧ r.rel μ v := by
  obtain ⟨_, hd, rfl⟩ := und_of hT ht rfl
  unfold aLookup at ee
  split at ee
  · simp only [AV.rel] at hx; subst hx
    obtain ⟨v, h1, h2⟩ := look_ok (P := P) hT ee (l := #[]) rfl hi w
    refine ⟨v, Eq.trans ?_ h1, h2⟩
    simp only [Instr.lookup, Sem.run_bind, run_underlying hd, Result.andThen_ok, Sem.run_pure]
    rfl
  · rename_i id
    simp only [AV.rel] at hx
    obtain ⟨b, hm, rfl⟩ := hx
    split at ee
    · rename_i es clock hg
      have hb := hR.blk id b 0 hm
      rw [hg] at hb
      obtain ⟨_, ces, hh, hes⟩ := hb
      obtain ⟨v, h1, h2⟩ := look_ok (P := P) hT ee hes hi w
      refine ⟨v, Eq.trans ?_ h1, h2⟩
      simp only [Instr.lookup, Sem.run_bind, run_underlying hd, Result.andThen_ok, Sem.run_pure, getObj_run hh (by simp)]
      rfl
    · rename_i es hg
      have hb := hR.blk id b 0 hm
      rw [hg] at hb
      obtain ⟨_, es', clock, ces, hh, hes, hs⟩ := hb
      obtain ⟨v, h1, h2⟩ := look_ok (P := P) hT (aLookC_imp hs ee) hes hi w
      refine ⟨v, Eq.trans ?_ h1, h2⟩
      simp only [Instr.lookup, Sem.run_bind, run_underlying hd, Result.andThen_ok, Sem.run_pure, getObj_run hh (by simp)]
      rfl
    · cases ee
  · cases ee

theorem obj_post {h h' : H} {w : World} {id b : Nat} {k : Blk} {o o' : Obj} (hR : Rel μ h w) (hm : μ id = some (b, 0)) (hl : (h.get id).live = true) (hp : h.put id k = some h') (hh : w.heap[b]? = some o) (hc : ∀ c e f, o' ≠ .cells c e f)
    (hk : ∀ w' : World, w'.heap[b]? = some o' → BlkRel μ w' b 0 k) : Post μ h w μ h' { w with heap := w.heap.setIfInBounds b o' } := by
  have hlt : b < w.heap.size := (Array.getElem?_eq_some_iff.1 hh).1
  have hb : ({ w with heap := w.heap.setIfInBounds b o' } : World).heap[b]? = some o' := by simp [hlt]
  exact put_post hR hp hm hl rfl rfl rfl (by simp) (fun c hc => by simp [Array.getElem?_setIfInBounds_ne (Ne.symm hc)]) (fun ccs t fr he => by rw [hb] at he; injection he with he; exact absurd he (hc _ _ _)) (hk _ hb)

include hT in
theorem mapPut_ok {t k e : Nat} {m i v : AV} {vm vi vv : Value} {h h' : H} {w : World} (ht : (T t).kd = .map k e) (hR : Rel μ h w) (ee : aMapPut T k m i v h = some h') (hm : m.rel μ vm) (hi : i.rel μ vi) (hv : v.rel μ vv) :
    ∃ w', (Instr.mapUpdate t vm vi vv).run P w = .ok () w' ∧ Post μ h w μ h' w' := by
  obtain ⟨_, hd, rfl⟩ := und_of hT ht rfl
  unfold aMapPut at ee
  split at ee
  · rename_i id
    simp only [AV.rel] at hm
    obtain ⟨b, hm, rfl⟩ := hm
    split at ee
    · rename_i es clock hg
      have hb := hR.blk id b 0 hm
      rw [hg] at hb
      obtain ⟨_, ces, hh, hes⟩ := hb
      split at ee
      · rename_i hc
        obtain ⟨d, hd2, hkd⟩ := und_of hT (t := k) rfl (by revert hc; cases (T k).kd <;> simp [Kd.scalar, Kd.known])
        have hck := checkKey_ok (P := P) hd2 hkd hc false vi w
        split at ee
        · rename_i j v0 n hf
          obtain ⟨e', e1, e2, e3, _, e5, e6⟩ := aFind_ok hkd hi hf hes
          rw [Nat.sub_zero] at e3
          have e3' : ces[j]? = some e' := by rw [← Array.getElem?_toList]; exact e3
          refine ⟨_, ?_, obj_post hR hm (by rw [hg]; rfl) ee hh (o' := .map (ces.modify j fun e => { e with key := vi, val := vv }) clock) (by simp) fun w' hw' => ⟨rfl, _, hw', ?_⟩⟩
          · simp only [Instr.mapUpdate, Sem.run_bind, run_underlying hd, Result.andThen_ok, getObj_run hh (by simp), hck, Instr.findKey, run_underlying hd2, e1, Sem.run_pure, e3', Option.map_some, Option.getD_some, Instr.keyThatStays, e6, if_true]
            exact setObj_run hh (by simp)
          · have hj : j < ces.size := (Array.getElem?_eq_some_iff.1 e3').1
            have he' : ces[j] = e' := by rw [Array.getElem?_eq_getElem hj] at e3'; injection e3'
            have : (ces.modify j fun e => { e with key := vi, val := vv }).toList = ces.toList.set j { e' with key := vi, val := vv } := by
              apply List.ext_getElem?
              intro q
              rw [Array.getElem?_toList, Array.getElem?_modify, List.getElem?_set, Array.getElem?_toList]
              by_cases hq : j = q
              · subst hq; rw [e3']; simp [hj]
              · simp [hq]
            rw [this, lset_eq]
            exact hes.set hi hv e5
        · rename_i hf
          have e1 := aFind_ok hkd hi hf hes
          simp only at e1
          refine ⟨_, ?_, obj_post hR hm (by rw [hg]; rfl) ee hh (o' := .map (ces.push { key := vi, val := vv, born := clock }) (clock + 1)) (by simp) fun w' hw' => ⟨rfl, _, hw', ?_⟩⟩
          · simp only [Instr.mapUpdate, Sem.run_bind, run_underlying hd, Result.andThen_ok, getObj_run hh (by simp), hck, Instr.findKey, run_underlying hd2, e1, Sem.run_pure]
            exact setObj_run hh (by simp)
          · rw [lapp_eq, Array.toList_push]
            exact hes.append ⟨_, _, rfl, hi, hv, rfl, rfl⟩
        · cases ee
      · cases ee
    · rename_i es0 hg
      have hb := hR.blk id b 0 hm
      rw [hg] at hb
      obtain ⟨_, es, clock, ces, hh, hes, hs⟩ := hb
      split at ee
      · rename_i hc
        obtain ⟨d, hd2, hkd⟩ := und_of hT (t := k) rfl (by revert hc; cases (T k).kd <;> simp [Kd.scalar, Kd.known])
        have hck := checkKey_ok (P := P) hd2 hkd hc false vi w
        split at ee
        · rename_i v0 hf0
          obtain ⟨j, n, hf, hj0⟩ := hs.find hf0
          obtain ⟨e', e1, e2, e3, _, e5, e6⟩ := aFind_ok hkd hi hf hes
          rw [Nat.sub_zero] at e3
          have e3' : ces[j]? = some e' := by rw [← Array.getElem?_toList]; exact e3
          refine ⟨_, ?_, obj_post hR hm (by rw [hg]; rfl) ee hh (o' := .map (ces.modify j fun e => { e with key := vi, val := vv }) clock) (by simp) fun w' hw' => ⟨rfl, _, _, _, hw', ?_, hs.set hf0 hj0⟩⟩
          · simp only [Instr.mapUpdate, Sem.run_bind, run_underlying hd, Result.andThen_ok, getObj_run hh (by simp), hck, Instr.findKey, run_underlying hd2, e1, Sem.run_pure, e3', Option.map_some, Option.getD_some, Instr.keyThatStays, e6, if_true]
            exact setObj_run hh (by simp)
          · have hj : j < ces.size := (Array.getElem?_eq_some_iff.1 e3').1
            have he' : ces[j] = e' := by rw [Array.getElem?_eq_getElem hj] at e3'; injection e3'
            have : (ces.modify j fun e => { e with key := vi, val := vv }).toList = ces.toList.set j { e' with key := vi, val := vv } := by
              apply List.ext_getElem?
              intro q
              rw [Array.getElem?_toList, Array.getElem?_modify, List.getElem?_set, Array.getElem?_toList]
              by_cases hq : j = q
              · subst hq; rw [e3']; simp [hj]
              · simp [hq]
            rw [this]
            exact hes.set hi hv e5
        · rename_i hf0
          have hf := hs.find hf0
          simp only at hf
          have e1 := aFind_ok hkd hi hf hes
          simp only at e1
          refine ⟨_, ?_, obj_post hR hm (by rw [hg]; rfl) ee hh (o' := .map (ces.push { key := vi, val := vv, born := clock }) (clock + 1)) (by simp) fun w' hw' => ⟨rfl, _, _, _, hw', ?_, hs.push hf0⟩⟩
          · simp only [Instr.mapUpdate, Sem.run_bind, run_underlying hd, Result.andThen_ok, getObj_run hh (by simp), hck, Instr.findKey, run_underlying hd2, e1, Sem.run_pure]
            exact setObj_run hh (by simp)
          · rw [Array.toList_push]
            exact hes.append ⟨_, _, rfl, hi, hv, rfl, rfl⟩
        · cases ee
      · cases ee
    · cases ee
  · cases ee

include hT in
theorem mapDel_ok {t t2 k e ty : Nat} {m i : AV} {vm vi : Value} {h h' : H} {w : World} (ht : (T t).kd = .map k e) (hR : Rel μ h w) (ee : aMapDel T k m i h = some h') (hm : m.rel μ vm) (hi : i.rel μ vi) :
    ∃ w', (Builtin.delete_ #[t, t2] ty #[vm, vi]).run P w = .ok (.tuple #[]) w' ∧ Post μ h w μ h' w' := by
  obtain ⟨_, hd, rfl⟩ := und_of hT ht rfl
  unfold aMapDel at ee
  split at ee
  · rename_i hc
    obtain ⟨d, hd2, hkd⟩ := und_of hT (t := k) rfl (by revert hc; cases (T k).kd <;> simp [Kd.scalar, Kd.known])
    have start : ∀ (x : Value), (Builtin.delete_ #[t, t2] ty #[x, vi]) = (do
        let .map keyType _ ← underlying t | stuck "delete: map type expected"
        match x with
        | .map none => Instr.checkKey true 10000 keyType vi
        | .map (some r) =>
          let .map es clock ← getObj r | stuck "delete: map expected"
          Instr.checkKey es.isEmpty 10000 keyType vi
          match ← Instr.findKey keyType vi es.toList with
          | some (i, _) => setObj r (.map (es.eraseIdxIfInBounds i) clock)
          | none => setObj r (.map es clock)
        | _ => stuck "delete: map expected"
        pure (.tuple #[])) := fun x => rfl
    split at ee
    · injection ee with ee; subst ee
      simp only [AV.rel] at hm; subst hm
      refine ⟨w, ?_, Post.refl hR⟩
      rw [start]
      simp only [Sem.run_bind, run_underlying hd, Result.andThen_ok, checkKey_ok (P := P) hd2 hkd hc true vi w, Sem.run_pure]
    · rename_i id
      simp only [AV.rel] at hm
      obtain ⟨b, hm, rfl⟩ := hm
      split at ee
      · rename_i es clock hg
        have hb := hR.blk id b 0 hm
        rw [hg] at hb
        obtain ⟨_, ces, hh, hes⟩ := hb
        have hck := checkKey_ok (P := P) hd2 hkd hc ces.isEmpty vi w
        split at ee
        · rename_i j v0 n hf
          obtain ⟨e', e1, e2, e3, _, e5, e6⟩ := aFind_ok hkd hi hf hes
          rw [Nat.sub_zero, Array.getElem?_toList] at e3
          have hj : j < ces.size := (Array.getElem?_eq_some_iff.1 e3).1
          refine ⟨_, ?_, obj_post hR hm (by rw [hg]; rfl) ee hh (o' := .map (ces.eraseIdxIfInBounds j) clock) (by simp) fun w' hw' => ⟨rfl, _, hw', ?_⟩⟩
          · rw [start]
            simp only [Sem.run_bind, run_underlying hd, Result.andThen_ok, getObj_run hh (by simp), hck, Instr.findKey, run_underlying hd2, e1, Sem.run_pure, setObj_run hh (by simp)]
          · rw [lrem_eq, Array.eraseIdxIfInBounds, dif_pos hj, Array.toList_eraseIdx]
            exact hes.erase
        · rename_i hf
          have e1 := aFind_ok hkd hi hf hes
          simp only at e1
          refine ⟨_, ?_, obj_post hR hm (by rw [hg]; rfl) ee hh (o' := .map ces clock) (by simp) fun w' hw' => ⟨rfl, _, hw', hes⟩⟩
          rw [start]
          simp only [Sem.run_bind, run_underlying hd, Result.andThen_ok, getObj_run hh (by simp), hck, Instr.findKey, run_underlying hd2, e1, Sem.run_pure, setObj_run hh (by simp)]
        · cases ee
      · rename_i es0 hg
        have hb := hR.blk id b 0 hm
        rw [hg] at hb
        obtain ⟨_, es, clock, ces, hh, hes, hs⟩ := hb
        have hck := checkKey_ok (P := P) hd2 hkd hc ces.isEmpty vi w
        split at ee
        · rename_i v0 hf0
          obtain ⟨j, n, hf, hj0⟩ := hs.find hf0
          obtain ⟨e', e1, e2, e3, _, e5, e6⟩ := aFind_ok hkd hi hf hes
          rw [Nat.sub_zero, Array.getElem?_toList] at e3
          have hj : j < ces.size := (Array.getElem?_eq_some_iff.1 e3).1
          refine ⟨_, ?_, obj_post hR hm (by rw [hg]; rfl) ee hh (o' := .map (ces.eraseIdxIfInBounds j) clock) (by simp) fun w' hw' => ⟨rfl, _, _, _, hw', ?_, hs.erase hf0 hj0⟩⟩
          · rw [start]
            simp only [Sem.run_bind, run_underlying hd, Result.andThen_ok, getObj_run hh (by simp), hck, Instr.findKey, run_underlying hd2, e1, Sem.run_pure, setObj_run hh (by simp)]
          · rw [Array.eraseIdxIfInBounds, dif_pos hj, Array.toList_eraseIdx]
            exact hes.erase
        · rename_i hf0
          have hf := hs.find hf0
          simp only at hf
          have e1 := aFind_ok hkd hi hf hes
          simp only at e1
          refine ⟨_, ?_, obj_post hR hm (by rw [hg]; rfl) ee hh (o' := .map ces clock) (by simp) fun w' hw' => ⟨rfl, _, _, _, hw', hes, hs⟩⟩
          rw [start]
          simp only [Sem.run_bind, run_underlying hd, Result.andThen_ok, getObj_run hh (by simp), hck, Instr.findKey, run_underlying hd2, e1, Sem.run_pure, setObj_run hh (by simp)]
        · cases ee
      · cases ee
    · cases ee
  · cases ee

include hT in
theorem lenMap_ok {t ty k e : Nat} {m r : AV} {x : Value} {h : H} {w : World} (ht : (T t).kd = .map k e) (hR : Rel μ h w) (ee : aLenMap m h = some r) (hm : m.rel μ x) : ∃ v, (Builtin.len_ #[t] ty #[x]).run P w = .ok v w ∧ r.rel μ v := by
  obtain ⟨_, hd, rfl⟩ := und_of hT ht rfl
  unfold aLenMap at ee
  split at ee
  · injection ee with ee; subst ee
    simp only [AV.rel] at hm; subst hm
    exact ⟨goInt 0, by simp [Builtin.len_, run_underlying hd], by simp [AV.rel, goInt]⟩
  · rename_i id
    simp only [AV.rel] at hm
    obtain ⟨b, hm, rfl⟩ := hm
    split at ee
    · rename_i es clock hg
      have hb := hR.blk id b 0 hm
      rw [hg] at hb
      obtain ⟨_, ces, hh, hes⟩ := hb
      injection ee with ee; subst ee
      refine ⟨goInt ces.size, ?_, by have := hes.length; simp at this; simp [AV.rel, goInt, this]⟩
      simp [Builtin.len_, run_underlying hd, getObj_run hh (by simp)]
    · rename_i es0 hg
      have hb := hR.blk id b 0 hm
      rw [hg] at hb
      obtain ⟨_, es, clock, ces, hh, hes, hs⟩ := hb
      injection ee with ee; subst ee
      refine ⟨goInt ces.size, ?_, by have := hes.length; simp at this; simp [AV.rel, goInt, this, hs.length]⟩
      simp [Builtin.len_, run_underlying hd, getObj_run hh (by simp)]
    · cases ee
  · cases ee
end
end Go.Am
