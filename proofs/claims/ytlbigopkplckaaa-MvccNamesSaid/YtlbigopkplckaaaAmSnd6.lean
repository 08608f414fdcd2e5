/- A region that draws its order: whatever the order, it comes to what the one order came to. -/
import Derived.Test.YtlbigopkplckaaaAmSnd4
namespace Go.Am
open Go

structure Rec where
  i : Nat
  o : Oper
  b : Bool
  env : List AV
  h : H
  v : AV

/-- the one run, position by position -/
structure Trk (T : Ty) (G : Gam) (L : List Oper) (M : List Nat) (r : List Nat) (X : Nat → Rec) : Prop where
  idx : ∀ p, p < r.length → (X p).i = r.getD p 0 ∧ L[(X p).i]? = some (X p).o
  grd : ∀ p, p < r.length → guarded L (X p).o (X p).env = some (X p).b
  skip : ∀ p, p < r.length → (X p).b = false → (X p).v = .junk ∧ (X (p + 1)).h = (X p).h
  run : ∀ p, p < r.length → (X p).b = true → opX T G (X p).o.op (ev (X p).env) (X p).h = some ((X p).v, (X (p + 1)).h)
  env : ∀ p, p < r.length → (X (p + 1)).env = put (X p).o.dst (X p).v (X p).env
  again : ∀ p, p < r.length → (X p).b = true → opC T (X p).o.op = 3 → ∀ p', p' < p → (X p').b = true → opC T (X p').o.op = 1 → Nat.testBit (M.getD (X p).i 0) (X p').i = false →
    opR T (X p').o.op (ev (X p').env) (X (p + 1)).h = some (X p').v

theorem runOrd_tr {T : Ty} {G : Gam} {L : List Oper} {M : List Nat} {k : List AV → H → Option (AV × H)} {res : AV × H} : ∀ (r : List Nat) (seen : List Seen) (env : List AV) (h : H), runOrd T G L M r seen env h k = some res →
    ∃ X, Trk T G L M r X ∧ (X 0).env = env ∧ (X 0).h = h ∧ k (X r.length).env (X r.length).h = some res ∧
      ∀ p, p < r.length → (X p).b = true → opC T (X p).o.op = 3 → ∀ s ∈ seen, Nat.testBit (M.getD (X p).i 0) s.i = false → opR T s.op (ev s.env) (X (p + 1)).h = some s.v
  | [], seen, env, h, e => by
    refine ⟨fun _ => ⟨0, default, false, env, h, .junk⟩, ⟨?_, ?_, ?_, ?_, ?_, ?_⟩, rfl, rfl, e, ?_⟩ <;> (intro p hp; exact absurd hp (Nat.not_lt_zero _))
  | i :: r, seen, env, h, e => by
    unfold runOrd at e
    cases hL : L[i]? with
    | none => rw [hL] at e; cases e
    | some o =>
      rw [hL] at e; simp only at e
      have build : ∀ (b : Bool) (v : AV) (h' : H) (seen' : List Seen), guarded L o env = some b → (b = false → v = .junk ∧ h' = h) → (b = true → opX T G o.op (ev env) h = some (v, h')) →
          (∀ s ∈ seen, s ∈ seen') → (b = true → opC T o.op = 1 → (⟨i, o.op, env, v⟩ : Seen) ∈ seen') → (b = true → opC T o.op = 3 → ∀ s ∈ seen, Nat.testBit (M.getD i 0) s.i = false → opR T s.op (ev s.env) h' = some s.v) →
          runOrd T G L M r seen' (put o.dst v env) h' k = some res →
          ∃ X, Trk T G L M (i :: r) X ∧ (X 0).env = env ∧ (X 0).h = h ∧ k (X (i :: r).length).env (X (i :: r).length).h = some res ∧
            ∀ p, p < (i :: r).length → (X p).b = true → opC T (X p).o.op = 3 → ∀ s ∈ seen, Nat.testBit (M.getD (X p).i 0) s.i = false → opR T s.op (ev s.env) (X (p + 1)).h = some s.v := by
        intro b v h' seen' hg hs hr hsub hin hag e'
        obtain ⟨X, tr, x1, x2, x3, x4⟩ := runOrd_tr r seen' _ _ e'
        let Y : Nat → Rec := fun p => match p with | 0 => ⟨i, o, b, env, h, v⟩ | p + 1 => X p
        have hY1 : (Y 1).h = h' := x2
        refine ⟨Y, ⟨?_, ?_, ?_, ?_, ?_, ?_⟩, rfl, rfl, x3, ?_⟩
        · intro p hp
          cases p with
          | zero => exact ⟨rfl, hL⟩
          | succ p => have := tr.idx p (by simpa using hp); exact ⟨by rw [show (Y (p + 1)).i = (X p).i from rfl, this.1]; simp, this.2⟩
        · intro p hp
          cases p with
          | zero => exact hg
          | succ p => exact tr.grd p (by simpa using hp)
        · intro p hp hb
          cases p with
          | zero => have := hs hb; exact ⟨this.1, by rw [hY1]; exact this.2⟩
          | succ p => exact tr.skip p (by simpa using hp) hb
        · intro p hp hb
          cases p with
          | zero => rw [hY1]; exact hr hb
          | succ p => exact tr.run p (by simpa using hp) hb
        · intro p hp
          cases p with
          | zero => exact x1
          | succ p => exact tr.env p (by simpa using hp)
        · intro p hp hb hc p' hp' hb' hc' ht
          cases p with
          | zero => omega
          | succ p =>
            cases p' with
            | zero => exact x4 p (by simpa using hp) hb hc _ (hin hb' hc') ht
            | succ p' => exact tr.again p (by simpa using hp) hb hc p' (by omega) hb' hc' ht
        · intro p hp hb hc s hs' ht
          cases p with
          | zero => rw [hY1]; exact hag hb hc s hs' ht
          | succ p => exact x4 p (by simpa using hp) hb hc s (hsub s hs') ht
      cases hg : guarded L o env with
      | none => rw [hg] at e; cases e
      | some b =>
        rw [hg] at e
        cases b with
        | false => exact build false .junk h seen hg (fun _ => ⟨rfl, rfl⟩) (fun h => by cases h) (fun _ h => h) (fun h => by cases h) (fun h => by cases h) e
        | true =>
          simp only at e
          cases hx : opX T G o.op (ev env) h with
          | none => rw [hx] at e; cases e
          | some p =>
            obtain ⟨v, h'⟩ := p
            rw [hx] at e; simp only at e
            split at e
            · rename_i hc
              exact build true v h' _ hg (fun h => by cases h) (fun _ => hx) (fun _ h => by simp [h]) (fun _ _ => by simp) (fun _ h3 => by rw [hc] at h3; cases h3) e
            · rename_i hc
              split at e
              · rename_i hrr
                exact build true v h' seen hg (fun h => by cases h) (fun _ => hx) (fun _ h => h) (fun _ h1 => by rw [hc] at h1; cases h1) (fun _ _ s hs ht => reread_ok hrr s hs ht) e
              · cases e
            · rename_i hc1 hc2
              exact build true v h' seen hg (fun h => by cases h) (fun _ => hx) (fun _ h => h) (fun _ h1 => absurd h1 hc1) (fun _ h3 => absurd h3 hc2) e

/-- what the check gives -/
structure Ord (T : Ty) (L : List Oper) (M π : List Nat) : Prop where
  len : π.length = L.length
  pos : ∀ p, p < L.length → π.idxOf (π.getD p 0) = p ∧ π.getD p 0 < L.length
  lt : ∀ i, i < L.length → π.idxOf i < L.length
  dep : ∀ i o, L[i]? = some o → ∀ d ∈ deps o, d < i
  pair : ∀ i j oi oj, L[i]? = some oi → L[j]? = some oj → pairOk T L M π i j oi oj = true
theorem orderOk_ord {T : Ty} {L : List Oper} {M π : List Nat} (h : orderOk T L M π = true) : Ord T L M π := by
  unfold orderOk at h
  simp only [Bool.and_eq_true, beq_iff_eq, List.all_eq_true, List.mem_range] at h
  obtain ⟨⟨h1, h2⟩, h3⟩ := h
  have h3' : ∀ i oi, L[i]? = some oi → (π.idxOf i < L.length) ∧ (∀ d ∈ deps oi, d < i) ∧ ∀ j oj, L[j]? = some oj → pairOk T L M π i j oi oj = true := by
    intro i oi hi
    have := h3 i (List.getElem?_eq_some_iff.1 hi).1
    rw [hi] at this
    simp only [Bool.and_eq_true, blt_iff, List.all_eq_true, List.mem_range] at this
    refine ⟨this.1.1, fun d hd => (this.1.2 d hd).1, fun j oj hj => ?_⟩
    have := this.2 j (List.getElem?_eq_some_iff.1 hj).1
    rw [hj] at this; exact this
  refine ⟨h1, fun p hp => ?_, fun i hi => (h3' i _ (List.getElem?_eq_getElem hi)).1, fun i o hi => (h3' i o hi).2.1, fun i j oi oj hi hj => (h3' i oi hi).2.2 j oj hj⟩
  have := h2 p hp
  rw [blt_iff] at this
  exact this
theorem Ord.inv {T : Ty} {L : List Oper} {M π : List Nat} (h : Ord T L M π) {i : Nat} (hi : i < L.length) : π.getD (π.idxOf i) 0 = i := by
  have h1 := h.lt i hi
  have h2 : π.idxOf i < π.length := by rw [h.len]; exact h1
  rw [List.getD_eq_getElem?_getD, List.getElem?_eq_getElem h2]
  simp [List.getElem_idxOf]

/-- closed downwards -/
def Down (L : List Oper) (D : Nat → Prop) : Prop := ∀ (x : Nat) ox d, D x → L[x]? = some ox → d ∈ deps ox → D d

theorem opC_le (T : Ty) (o : Op) : opC T o = 0 ∨ opC T o = 1 ∨ opC T o = 2 ∨ opC T o = 3 := by
  have hb : ∀ b, biC b = 0 ∨ biC b = 1 ∨ biC b = 2 ∨ biC b = 3 := fun b => by unfold biC; split <;> simp
  unfold opC
  repeat' split
  all_goals first | exact hb _ | simp
theorem opX_0 {T : Ty} {G : Gam} {o : Op} {ρ : Operand → AV} {h h' : H} {v : AV} (e : opX T G o ρ h = some (v, h')) (c : opC T o = 0) : opP T o ρ = some v ∧ h' = h := by
  unfold opX at e; rw [c] at e; simp only at e
  split at e
  · injection e with e; injection e with e1 e2; subst e1 e2; exact ⟨‹_›, rfl⟩
  · cases e
theorem opX_1 {T : Ty} {G : Gam} {o : Op} {ρ : Operand → AV} {h h' : H} {v : AV} (e : opX T G o ρ h = some (v, h')) (c : opC T o = 1) : opR T o ρ h = some v ∧ h' = h := by
  unfold opX at e; rw [c] at e; simp only at e
  split at e
  · injection e with e; injection e with e1 e2; subst e1 e2; exact ⟨‹_›, rfl⟩
  · cases e
theorem opX_2 {T : Ty} {G : Gam} {o : Op} {ρ : Operand → AV} {h h' : H} {v : AV} (e : opX T G o ρ h = some (v, h')) (c : opC T o = 2) : ∃ k f n, opA T o ρ = some (k, f) ∧ h.push k = some (n, h') ∧ v = f n := by
  unfold opX at e; rw [c] at e; simp only at e
  unfold aNew at e
  split at e
  · rename_i k f hkf
    split at e
    · rename_i n h1 hp
      injection e with e; injection e with e1 e2; subst e1 e2; exact ⟨k, f, n, hkf, hp, rfl⟩
    · cases e
  · cases e

theorem load_push {h h' : H} {k : Blk} {n : Nat} (wf : h.Wf) (hp : h.push k = some (n, h')) {id : Nat} (hl : (h.get id).live = true) : h'.get id = h.get id := by
  obtain ⟨_, _, _, _, hg⟩ := H.push_some hp wf
  rw [hg, if_neg]; have := H.lt_of_live hl; omega
theorem opR_push {T : Ty} {o : Op} {ρ : Operand → AV} {h h' : H} {k : Blk} {n : Nat} {v : AV} (wf : h.Wf) (hp : h.push k = some (n, h')) (e : opR T o ρ h = some v) : opR T o ρ h' = some v := by
  have key : ∀ {id : Nat}, (h.get id).live = true → h'.get id = h.get id := fun hl => load_push wf hp hl
  unfold opR at e ⊢
  split at e
  case h_1 t a =>
    split at e
    · skip
      split at e
      · skip
        unfold aLoadN at e ⊢
        split at e
        · skip
          split at e
          · rename_i hc; rw [key (by rw [hc]; rfl), hc]; exact e
          · cases e
        · cases e
      · skip
        unfold aLoad1 at e ⊢
        split at e
        · skip
          split at e
          · rename_i hc; rw [key (by rw [hc]; rfl), hc]; exact e
          · rename_i hc; rw [key (by rw [hc]; rfl), hc]; exact e
          · cases e
        · cases e
    · cases e
  case h_2 s d x =>
    split at e
    · skip
      split at e
      · skip
        unfold aToStr at e ⊢
        split at e
        · exact e
        · skip
          split at e
          · rename_i hc; rw [key (by rw [hc]; rfl), hc]; exact e
          · cases e
        · cases e
      · cases e
    · split at e
      · skip
        unfold aToU at e ⊢
        split at e
        · exact e
        · split at e
          · rename_i hc; rw [key (by rw [hc]; rfl), hc]; exact e
          · rename_i hc; rw [key (by rw [hc]; rfl), hc]; exact e
          · cases e
        · cases e
      · cases e
    · split at e
      · skip
        unfold aOfU at e ⊢
        split at e
        · exact e
        · split at e
          · rename_i hc; rw [key (by rw [hc]; rfl), hc]; exact e
          · cases e
        · cases e
      · cases e
    · cases e
  case h_3 => cases e
end Go.Am
