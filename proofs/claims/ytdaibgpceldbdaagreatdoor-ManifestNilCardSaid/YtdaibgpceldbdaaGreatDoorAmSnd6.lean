/- A region that draws its order: the one run, position by position. -/
import Derived.Test.YtdaibgpceldbdaaGreatDoorAmSnd4
namespace Go.Am
open Go

structure Rec where
  i : Nat
  o : Oper
  b : Bool
  env : List AV
  h : H
  v : AV

/-- the guard's answer -/
def GrdIs (L : List Oper) (o : Oper) (env : List AV) (b : Bool) : Prop :=
  match o.guard with
  | none => b = true
  | some (j, want) => ∃ oj d, L[j]? = some oj ∧ oj.dst = some d ∧ ((∃ c, lget .junk env d = .bool c ∧ b = (c == want)) ∨ (lget .junk env d = skipV ∧ b = false))
theorem GrdIs.none {L : List Oper} {o : Oper} {env : List AV} (h : o.guard = none) : GrdIs L o env true := by unfold GrdIs; rw [h]
theorem GrdIs.some {L : List Oper} {o oj : Oper} {env : List AV} {j d : Nat} {want b : Bool} (h : o.guard = some (j, want)) (h1 : L[j]? = some oj) (h2 : oj.dst = some d) (c : Bool) (h3 : lget .junk env d = .bool c) (h4 : b = (c == want)) : GrdIs L o env b := by
  unfold GrdIs; rw [h]; exact ⟨oj, d, h1, h2, .inl ⟨c, h3, h4⟩⟩
theorem GrdIs.skip {L : List Oper} {o oj : Oper} {env : List AV} {j d : Nat} {want : Bool} (h : o.guard = Option.some (j, want)) (h1 : L[j]? = Option.some oj) (h2 : oj.dst = Option.some d) (h3 : lget .junk env d = skipV) : GrdIs L o env false := by
  unfold GrdIs; rw [h]; exact ⟨oj, d, h1, h2, .inr ⟨h3, rfl⟩⟩
theorem guardK_is {J : Joins} {L : List Oper} {o : Oper} {env : List AV} {h : H} {run : (AV → H → Prop) → Prop} {k : AV → H → Prop} (e : guardK J L o env h run k) :
    (GrdIs L o env true ∧ run k) ∨ (GrdIs L o env false ∧ k skipV h) := by
  unfold guardK at e
  split at e
  · rename_i hg; exact .inl ⟨GrdIs.none hg, e⟩
  · rename_i j want hg
    split at e
    · rename_i oj hj
      split at e
      · rename_i d hd
        rw [J.jn_ok, asBU_iff] at e
        rcases e with ⟨b, hb, e⟩ | ⟨hb, e⟩
        · split at e
          · rw [br_iff] at e
            rcases e with ⟨rfl, e⟩ | ⟨rfl, e⟩
            · exact .inl ⟨GrdIs.some hg hj hd true hb rfl, e⟩
            · exact .inr ⟨GrdIs.some hg hj hd false hb rfl, e⟩
          · rw [br_iff] at e
            rcases e with ⟨rfl, e⟩ | ⟨rfl, e⟩
            · exact .inr ⟨GrdIs.some hg hj hd true hb rfl, e⟩
            · exact .inl ⟨GrdIs.some hg hj hd false hb rfl, e⟩
        · exact .inr ⟨GrdIs.skip hg hj hd hb, e⟩
      · exact e.elim
    · exact e.elim
theorem guardB_is {J : Joins} {L : List Oper} {o : Oper} {env : List AV} {run : (AV → Prop) → Prop} {k : Bool → AV → Prop} (e : guardB J L o env run k) :
    (GrdIs L o env true ∧ run (k true)) ∨ (GrdIs L o env false ∧ k false skipV) := by
  unfold guardB at e
  split at e
  · rename_i hg; exact .inl ⟨GrdIs.none hg, e⟩
  · rename_i j want hg
    split at e
    · rename_i oj hj
      split at e
      · rename_i d hd
        rw [J.jb_ok, asBU_iff] at e
        rcases e with ⟨b, hb, e⟩ | ⟨hb, e⟩
        · split at e
          · rw [br_iff] at e
            rcases e with ⟨rfl, e⟩ | ⟨rfl, e⟩
            · exact .inl ⟨GrdIs.some hg hj hd true hb rfl, e⟩
            · exact .inr ⟨GrdIs.some hg hj hd false hb rfl, e⟩
          · rw [br_iff] at e
            rcases e with ⟨rfl, e⟩ | ⟨rfl, e⟩
            · exact .inr ⟨GrdIs.some hg hj hd true hb rfl, e⟩
            · exact .inl ⟨GrdIs.some hg hj hd false hb rfl, e⟩
        · exact .inr ⟨GrdIs.skip hg hj hd hb, e⟩
      · exact e.elim
    · exact e.elim
theorem GrdIs.wanted {μ : Mu} {ops : Array Oper} {o : Oper} {env : List AV} {b : Bool} {tmps : Array Value} (g : GrdIs ops.toList o env b) (he : ∀ d ∈ guardSlot ops.toList o, (env.getD d .junk).rel μ (tmps.getD d undef)) : Region.wanted o (yielded ops tmps) = b := by
  unfold GrdIs at g
  split at g
  · rename_i hg; subst g; unfold Region.wanted; rw [hg]
  · rename_i j want hg
    obtain ⟨oj, d, h1, h2, ⟨c, h3, rfl⟩ | ⟨h3, rfl⟩⟩ := g
    · exact wanted_of hg h1 h2 h3 (he d (by unfold guardSlot; simp [hg, h1, h2]))
    · exact wanted_skip hg h1 h2 h3 (he d (by unfold guardSlot; simp [hg, h1, h2]))
theorem guardSlot_looks {L : List Oper} {o : Oper} {d : Nat} (h : d ∈ guardSlot L o) : d ∈ looks L o := by
  unfold looks; rw [List.mem_append]; right
  unfold guardSlot at h
  split at h <;> rename_i hg <;> simp only [hg]
  · exact h
  · cases h

/-- the one run up to position q -/
structure Trk (T : Ty) (L : List Oper) (π : List Nat) (env0 : List AV) (h0 : H) (X : Nat → Rec) (q : Nat) : Prop where
  idx : ∀ p, p < π.length → (X p).i = π.getD p 0 ∧ L[(X p).i]? = some (X p).o
  zenv : (X 0).env = env0
  zh : (X 0).h = h0
  grd : ∀ p, p < q → GrdIs L (X p).o (X p).env (X p).b
  skip : ∀ p, p < q → (X p).b = false → (X p).v = skipV ∧ (X (p + 1)).h = (X p).h
  run0 : ∀ p, p < q → (X p).b = true → opC T (X p).o.op = 0 → opP T (X p).o.op (ev (X p).env) = some (X p).v ∧ (X (p + 1)).h = (X p).h
  run1 : ∀ p, p < q → (X p).b = true → opC T (X p).o.op = 1 → opR T (X p).o.op (ev (X p).env) (X p).h = some (X p).v ∧ (X (p + 1)).h = (X p).h
  run2 : ∀ p, p < q → (X p).b = true → opC T (X p).o.op = 2 → ∃ k f n, opA T (X p).o.op (ev (X p).env) = some (k, f) ∧ (X p).h.push k = some (n, (X (p + 1)).h) ∧ (X p).v = f n
  env : ∀ p, p < q → (X (p + 1)).env = put (X p).o.dst (X p).v (X p).env
/-- what is still to be run -/
def Pend (T : Ty) (G : Gam) (L : List Oper) (M π : List Nat) (X : Nat → Rec) (q : Nat) (k : List AV → H → Prop) : Prop :=
  ∃ seen, runOrd T G L M (π.drop q) seen (X q).env (X q).h k ∧ ∀ p, p < q → (X p).b = true → opC T (X p).o.op = 1 → (⟨(X p).i, (X p).o.op, (X p).env, (X p).v, true⟩ : Seen) ∈ seen
/-- the run, told one position further -/
def extX (X : Nat → Rec) (q : Nat) (b : Bool) (v : AV) (env' : List AV) (h' : H) : Nat → Rec := fun p => if p = q then { X q with b := b, v := v } else if p = q + 1 then { X (q + 1) with env := env', h := h' } else X p
section
variable {X : Nat → Rec} {q : Nat} {b : Bool} {v : AV} {env' : List AV} {h' : H}
theorem extX_lt {p : Nat} (h : p < q) : extX X q b v env' h' p = X p := by unfold extX; rw [if_neg (by omega), if_neg (by omega)]
theorem extX_at : extX X q b v env' h' q = { X q with b := b, v := v } := if_pos rfl
theorem extX_next : extX X q b v env' h' (q + 1) = { X (q + 1) with env := env', h := h' } := by unfold extX; rw [if_neg (by omega), if_pos rfl]
theorem extX_i (p : Nat) : (extX X q b v env' h' p).i = (X p).i := by
  unfold extX; split
  · rename_i e; rw [e]
  · split
    · rename_i e; rw [e]
    · rfl
theorem extX_o (p : Nat) : (extX X q b v env' h' p).o = (X p).o := by
  unfold extX; split
  · rename_i e; rw [e]
  · split
    · rename_i e; rw [e]
    · rfl
theorem extX_env {p : Nat} (h : p ≤ q) : (extX X q b v env' h' p).env = (X p).env := by
  rcases Nat.lt_or_ge p q with hl | hg
  · rw [extX_lt hl]
  · have : p = q := by omega
    subst this; rw [extX_at]
theorem extX_h {p : Nat} (h : p ≤ q) : (extX X q b v env' h' p).h = (X p).h := by
  rcases Nat.lt_or_ge p q with hl | hg
  · rw [extX_lt hl]
  · have : p = q := by omega
    subst this; rw [extX_at]
end
theorem Trk.ext {T : Ty} {L : List Oper} {π : List Nat} {env0 : List AV} {h0 : H} {X : Nat → Rec} {q : Nat} (tr : Trk T L π env0 h0 X q) {b : Bool} {v : AV} {h' : H}
    (hg : GrdIs L (X q).o (X q).env b) (hs : b = false → v = skipV ∧ h' = (X q).h)
    (h0' : b = true → opC T (X q).o.op = 0 → opP T (X q).o.op (ev (X q).env) = some v ∧ h' = (X q).h)
    (h1' : b = true → opC T (X q).o.op = 1 → opR T (X q).o.op (ev (X q).env) (X q).h = some v ∧ h' = (X q).h)
    (h2' : b = true → opC T (X q).o.op = 2 → ∃ k f n, opA T (X q).o.op (ev (X q).env) = some (k, f) ∧ (X q).h.push k = some (n, h') ∧ v = f n) :
    Trk T L π env0 h0 (extX X q b v (put (X q).o.dst v (X q).env) h') (q + 1) := by
  have old : ∀ {p}, p < q → extX X q b v (put (X q).o.dst v (X q).env) h' p = X p ∧ (extX X q b v (put (X q).o.dst v (X q).env) h' (p + 1)).h = (X (p + 1)).h ∧ (extX X q b v (put (X q).o.dst v (X q).env) h' (p + 1)).env = (X (p + 1)).env := fun hp => ⟨extX_lt hp, extX_h (by omega), extX_env (by omega)⟩
  have cs : ∀ {p}, p < q + 1 → p < q ∨ p = q := fun h => by omega
  refine ⟨fun p hp => by rw [extX_i, extX_o]; exact tr.idx p hp, by rw [extX_env (Nat.zero_le _)]; exact tr.zenv, by rw [extX_h (Nat.zero_le _)]; exact tr.zh, fun p hp => ?_, fun p hp => ?_, fun p hp => ?_, fun p hp => ?_, fun p hp => ?_, fun p hp => ?_⟩
  all_goals rcases cs hp with hp | rfl
  · rw [(old hp).1]; exact tr.grd p hp
  · rw [extX_at]; exact hg
  · rw [(old hp).1, (old hp).2.1]; exact tr.skip p hp
  · rw [extX_at, extX_next]; exact hs
  · rw [(old hp).1, (old hp).2.1]; exact tr.run0 p hp
  · rw [extX_at, extX_next]; exact h0'
  · rw [(old hp).1, (old hp).2.1]; exact tr.run1 p hp
  · rw [extX_at, extX_next]; exact h1'
  · rw [(old hp).1, (old hp).2.1]; exact tr.run2 p hp
  · rw [extX_at, extX_next]; exact h2'
  · rw [(old hp).1, (old hp).2.2]; exact tr.env p hp
  · rw [extX_at, extX_next]

/-- what the check gives -/
structure Ord (T : Ty) (L : List Oper) (M π : List Nat) : Prop where
  len : π.length = L.length
  pos : ∀ p, p < L.length → π.idxOf (π.getD p 0) = p ∧ π.getD p 0 < L.length
  lt : ∀ i, i < L.length → π.idxOf i < L.length
  dep : ∀ i o, L[i]? = some o → ∀ d ∈ deps o, d < i
  pair : ∀ i j oi oj, L[i]? = some oi → L[j]? = some oj → pairOk T L M π i j oi oj = true
theorem orderOk_ord {T : Ty} {L : List Oper} {M π : List Nat} (h : orderOk T L M π = true) : Ord T L M π := by
  unfold orderOk at h
  simp only [Bool.and_eq_true, beq_iff_eq, List.all_eq_true, List.mem_range] at h
  obtain ⟨⟨h1, h2⟩, h3⟩ := h
  have h3' : ∀ i oi, L[i]? = some oi → (π.idxOf i < L.length) ∧ (∀ d ∈ deps oi, d < i) ∧ ∀ j oj, L[j]? = some oj → pairOk T L M π i j oi oj = true := by
    intro i oi hi
    have := h3 i (List.getElem?_eq_some_iff.1 hi).1
    rw [hi] at this
    simp only [Bool.and_eq_true, blt_iff, List.all_eq_true, List.mem_range] at this
    refine ⟨this.1.1, fun d hd => (this.1.2 d hd).1, fun j oj hj => ?_⟩
    have := this.2 j (List.getElem?_eq_some_iff.1 hj).1
    rw [hj] at this; exact this
  refine ⟨h1, fun p hp => ?_, fun i hi => (h3' i _ (List.getElem?_eq_getElem hi)).1, fun i o hi => (h3' i o hi).2.1, fun i j oi oj hi hj => (h3' i oi hi).2.2 j oj hj⟩
  have := h2 p hp
  rw [blt_iff] at this
  exact this
theorem Ord.inv {T : Ty} {L : List Oper} {M π : List Nat} (h : Ord T L M π) {i : Nat} (hi : i < L.length) : π.getD (π.idxOf i) 0 = i := by
  have h1 := h.lt i hi
  have h2 : π.idxOf i < π.length := by rw [h.len]; exact h1
  rw [List.getD_eq_getElem?_getD, List.getElem?_eq_getElem h2]
  simp [List.getElem_idxOf]

/-- closed downwards -/
def Down (L : List Oper) (D : Nat → Prop) : Prop := ∀ (x : Nat) ox d, D x → L[x]? = some ox → d ∈ deps ox → D d

theorem opC_le (T : Ty) (o : Op) : opC T o = 0 ∨ opC T o = 1 ∨ opC T o = 2 ∨ opC T o = 3 := by
  have hb : ∀ b, biC b = 0 ∨ biC b = 1 ∨ biC b = 2 ∨ biC b = 3 := fun b => by unfold biC; split <;> simp
  unfold opC
  repeat' split
  all_goals first | exact hb _ | simp
theorem load_push {h h' : H} {k : Blk} {n : Nat} (wf : h.Wf) (hp : h.push k = some (n, h')) {id : Nat} (hl : (h.get id).live = true) : h'.get id = h.get id := by
  obtain ⟨_, _, _, _, hg⟩ := H.push_some hp wf
  rw [hg, if_neg]; have := H.lt_of_live hl; omega
theorem opR_push {T : Ty} {o : Op} {ρ : Operand → AV} {h h' : H} {k : Blk} {n : Nat} {v : AV} (wf : h.Wf) (hp : h.push k = some (n, h')) (e : opR T o ρ h = some v) : opR T o ρ h' = some v := by
  have key : ∀ {id : Nat}, (h.get id).live = true → h'.get id = h.get id := fun hl => load_push wf hp hl
  unfold opR at e ⊢
  split at e
  case h_1 t a =>
    split at e
    · skip
      split at e
      · skip
        unfold aLoadN at e ⊢
        split at e
        · skip
          split at e
          · rename_i hc; rw [key (by rw [hc]; rfl), hc]; exact e
          · cases e
        · cases e
      · skip
        unfold aLoad1 at e ⊢
        split at e
        · skip
          split at e
          · rename_i hc; rw [key (by rw [hc]; rfl), hc]; exact e
          · rename_i hc; rw [key (by rw [hc]; rfl), hc]; exact e
          · cases e
        · cases e
    · cases e
  case h_2 s d x =>
    split at e
    · skip
      split at e
      · skip
        unfold aToStr at e ⊢
        split at e
        · exact e
        · skip
          split at e
          · rename_i hc; rw [key (by rw [hc]; rfl), hc]; exact e
          · cases e
        · cases e
      · cases e
    · split at e
      · skip
        unfold aToU at e ⊢
        split at e
        · exact e
        · split at e
          · rename_i hc; rw [key (by rw [hc]; rfl), hc]; exact e
          · rename_i hc; rw [key (by rw [hc]; rfl), hc]; exact e
          · cases e
        · cases e
      · cases e
    · split at e
      · skip
        unfold aOfU at e ⊢
        split at e
        · exact e
        · split at e
          · rename_i hc; rw [key (by rw [hc]; rfl), hc]; exact e
          · cases e
        · cases e
      · cases e
    · cases e
  case h_3 t x i ok =>
    split at e
    · unfold aLookup at e ⊢
      split at e
      · exact e
      · split at e
        · rename_i hc; rw [key (by rw [hc]; rfl), hc]; exact e
        · rename_i hc; rw [key (by rw [hc]; rfl), hc]; exact e
        · cases e
      · cases e
    · cases e
  case h_4 it =>
    unfold aEntry at e ⊢
    split at e
    · split at e
      · rename_i hc
        rw [key (by rw [hc]; rfl), hc]
        simp only
        split at e
        · rename_i hc2; rw [key (by rw [hc2]; rfl), hc2]; exact e
        · cases e
      · cases e
    · cases e
  case h_5 args argTypes =>
    split at e
    · split at e
      · unfold aLenMap at e ⊢
        split at e
        · exact e
        · split at e
          · rename_i hc; rw [key (by rw [hc]; rfl), hc]; exact e
          · rename_i hc; rw [key (by rw [hc]; rfl), hc]; exact e
          · cases e
        · cases e
      · cases e
    · cases e
  case h_6 => cases e
end Go.Am
