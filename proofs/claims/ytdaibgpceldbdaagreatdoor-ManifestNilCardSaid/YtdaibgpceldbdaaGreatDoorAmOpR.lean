/- The pure operations are sound, third part. -/
import Derived.Test.YtdaibgpceldbdaaGreatDoorAmOpQ
namespace Go.Am
open Go
/-- the whole of a binary operation, as the model runs it -/
def binRun (op : BinOp) (t : TypeId) (ox oy : Operand) (x y : Value) : Sem Value := do eqGuard op t ox oy x y; binOp op t x y

theorem binOp_eql {t : TypeId} {x y : Value} (h1 : ∀ k m k' n, x = .int k m → y = .int k' n → False) (h2 : ∀ k m, x ≠ .float k m) (h3 : ∀ k m n, x ≠ .complex k m n) (h4 : ∀ m n, x = .string m → y = .string n → False) :
    binOp .eql t x y = (do pure (.bool (← Op.equal t x y))) := by
  unfold binOp
  split <;> first | rfl | contradiction | exact (h1 _ _ _ _ rfl rfl).elim | exact (h4 _ _ rfl rfl).elim | (exfalso; simp_all; done)
theorem binOp_neq {t : TypeId} {x y : Value} (h1 : ∀ k m k' n, x = .int k m → y = .int k' n → False) (h2 : ∀ k m, x ≠ .float k m) (h3 : ∀ k m n, x ≠ .complex k m n) (h4 : ∀ m n, x = .string m → y = .string n → False) :
    binOp .neq t x y = (do pure (.bool (!(← Op.equal t x y)))) := by
  unfold binOp
  split <;> first | rfl | contradiction | exact (h1 _ _ _ _ rfl rfl).elim | exact (h4 _ _ rfl rfl).elim | (exfalso; simp_all; done)

theorem guard_not {op : BinOp} {t : TypeId} {ox oy : Operand} {x y : Value} (h1 : op ≠ .eql) (h2 : op ≠ .neq) (P : Program) (w : World) : (eqGuard op t ox oy x y).run P w = .ok () w := by
  cases op <;> first | exact absurd rfl h1 | exact absurd rfl h2 | rfl
theorem con_match (ox oy : Operand) : (isCon ox = true ∨ isCon oy = true) → ((ox matches .const _) || (oy matches .const _)) = true := by
  intro h
  cases ox <;> cases oy <;> first | rfl | (rcases h with h | h <;> cases h)
theorem guard_eq {op : BinOp} {t : TypeId} {ox oy : Operand} {x y : Value} {P : Program} (h1 : x = .nilIface → y = .nilIface → isCon ox = true ∨ isCon oy = true) (h2 : ∀ a b, x = .agg a → y = .agg b → P.eqGuardType P.depth t = false) (w : World) :
    (eqGuard op t ox oy x y).run P w = .ok () w := by
  by_cases e1 : ∃ a b, x = .agg a ∧ y = .agg b
  · obtain ⟨a, b, rfl, rfl⟩ := e1
    exact run_eqGuard_agg w op t ox oy a b (h2 a b rfl rfl)
  · by_cases e2 : x = .nilIface ∧ y = .nilIface
    · obtain ⟨rfl, rfl⟩ := e2
      have this := con_match ox oy (h1 rfl rfl)
      unfold eqGuard
      cases op <;> first | rfl | (simp only [Bool.not_true, Bool.false_eq_true, if_false]; exact (congrArg (fun s => Sem.run P s w) (if_pos this)).trans rfl)
    · unfold eqGuard
      cases op <;> first
        | rfl
        | (simp only [Bool.not_true, Bool.false_eq_true, if_false]
           split
           · exact absurd ⟨rfl, rfl⟩ e2
           · exact absurd ⟨_, _, rfl, rfl⟩ e1
           · rfl)

section
variable {P : Program} {T : Ty} (hT : TyOk P T) {μ : Mu}
include hT

omit hT in
theorem less_or (a : List UInt8) : ∀ b, (Op.bytesLess a b || a == b) = !(Op.bytesLess b a) := by
  induction a with
  | nil => intro b; cases b <;> simp [Op.bytesLess]
  | cons x a ih =>
    intro b
    cases b with
    | nil => simp [Op.bytesLess]
    | cons y b =>
      have := ih b
      simp only [Op.bytesLess, List.cons_beq_cons]
      rcases Nat.lt_trichotomy x.toNat y.toNat with h | h | h
      · have h1 : x < y := UInt8.lt_iff_toNat_lt.2 h
        have h2 : ¬ y < x := by rw [UInt8.lt_iff_toNat_lt]; omega
        have h3 : (y == x) = false := by rw [beq_eq_false_iff_ne]; intro e; rw [e] at h; omega
        simp [h1, h2, h3]
      · have e := UInt8.toNat_inj.1 h
        subst e
        have h2 : ¬ x < x := by rw [UInt8.lt_iff_toNat_lt]; omega
        simpa [h2] using this
      · have h1 : y < x := UInt8.lt_iff_toNat_lt.2 h
        have h2 : ¬ x < y := by rw [UInt8.lt_iff_toNat_lt]; omega
        have h3 : (x == y) = false := by rw [beq_eq_false_iff_ne]; intro e; rw [e] at h; omega
        simp [h1, h2, h3]

omit hT in
theorem binS_ok {op : BinOp} {t : TypeId} {a b : Str} {r : AV} {x y : Value} (h : binS op a b = some r) (ha : AV.rel μ (.str a) x) (hb : AV.rel μ (.str b) y) : ∃ v, Yld P (binOp op t x y) v ∧ r.rel μ v := by
  simp only [AV.rel] at ha hb
  obtain ⟨s, rfl, rfl⟩ := ha
  obtain ⟨u, rfl, rfl⟩ := hb
  have run : ∀ {v : Value}, (Op.stringOp op s u) = pure v → op ≠ .shl → op ≠ .shr → Yld P (binOp op t (.string s) (.string u)) v := fun e n1 n2 w => by
    unfold binOp
    split <;> first | (rename_i e'; cases e'; done) | skip
    all_goals first | (rw [e]; rfl) | simp_all
  unfold binS at h
  split at h
  case h_1 =>
    rw [Str.brec] at h; split at h
    · rename_i hl; rw [ble_iff] at hl
      injection h with h; subst h
      have hl' : s.size + u.size ≤ 9223372036854775807 := hl
      refine ⟨.string (s ++ u), run ?_ (by simp) (by simp), ?_⟩
      · have : ¬ (((s.size + u.size : Nat) : Int) > IntKind.i64.max) := by
          have : IntKind.i64.max = 9223372036854775807 := by simp [IntKind.max, IntKind.signed, IntKind.bits]
          rw [this]; omega
        simp only [Op.stringOp, this, if_false]
      · simp only [AV.rel]
        exact ⟨_, rfl, (Str.cat_of _ _).trans (by simp)⟩
    · cases h
  case h_8 => cases h
  all_goals
    injection h with h; subst h
    refine ⟨_, run (by simp only [Op.stringOp]; rfl) (by simp) (by simp), ?_⟩
    simp only [AV.rel, Str.beq_of, Str.lt_of, ByteArray.toList_eq, less_or, Bool.not_not]

omit hT in
theorem eqAV_junk {f : Nat} {t : Nat} {b : AV} {q : Bool} (h : eqAV T f t .junk b = some q) : False := by
  cases f with
  | zero => cases h
  | succ f =>
    unfold eqAV at h
    split at h <;> first | contradiction | cases h
omit hT in
theorem rel_not_float {a : AV} {x : Value} (ha : AV.rel μ a x) (hj : a ≠ .junk) : (∀ k m, x ≠ .float k m) ∧ (∀ k m n, x ≠ .complex k m n) := by
  constructor <;> (intros; intro e; subst e; cases a <;> simp [AV.rel] at ha hj)
omit hT in
theorem rel_int {a : AV} {k : IntKind} {m : Int} (ha : AV.rel μ a (.int k m)) (hj : a ≠ .junk) : a = .int k m := by
  cases a <;> simp_all [AV.rel]
omit hT in
theorem rel_str {a : AV} {s : ByteArray} (ha : AV.rel μ a (.string s)) (hj : a ≠ .junk) : a = .str (Str.of s.data.toList) := by
  cases a <;> simp [AV.rel] at ha hj
  rw [ha]
omit hT in
theorem rel_nili {a : AV} (ha : AV.rel μ a .nilIface) (hj : a ≠ .junk) : a = .nili := by
  cases a <;> simp_all [AV.rel]
omit hT in
theorem rel_agg {a : AV} {vs : Array Value} (ha : AV.rel μ a (.agg vs)) (hj : a ≠ .junk) : ∃ cs, a = .agg cs := by
  cases a <;> simp [AV.rel] at ha hj
  exact ⟨_, rfl⟩
omit hT in
theorem eqAV_junk2 {f : Nat} {t : Nat} {a : AV} {q : Bool} (h : eqAV T f t a .junk = some q) : False := by
  cases f with
  | zero => cases h
  | succ f =>
    unfold eqAV at h
    split at h <;> first | contradiction | cases h
theorem eqAV_agg {f : Nat} {t : Nat} {xs ys : List AV} {q : Bool} (h : eqAV T f t (.agg xs) (.agg ys) = some q) : P.eqGuardType P.depth t = false := by
  cases f with
  | zero => cases h
  | succ f =>
    unfold eqAV at h
    split at h <;> first | contradiction | (cases h; done) | skip
    rename_i hk _ _
    split at h
    · rename_i he; exact ((hT t (by rw [hk]; rfl)).eqp he).1
    · cases h

theorem eqBin_ok {op : BinOp} {t : TypeId} {ox oy : Operand} {a b : AV} {q : Bool} {x y : Value} (h : eqAV T 20 t a b = some q) (ha : AV.rel μ a x) (hb : AV.rel μ b y)
    (hi : ∀ k m k' n, a = .int k m → b = .int k' n → False) (hs : ∀ m n, a = .str m → b = .str n → False) (hn : a = .nili → b = .nili → isCon ox = true ∨ isCon oy = true) :
    (op = .eql → Yld P (binRun op t ox oy x y) (.bool q)) ∧ (op = .neq → Yld P (binRun op t ox oy x y) (.bool !q)) := by
  have ja : a ≠ .junk := fun e => by subst e; exact eqAV_junk h
  have jb : b ≠ .junk := fun e => by subst e; exact eqAV_junk2 h
  have hrun := fun w => eqAV_ok (P := P) (μ := μ) hT 20 10000 (by omega) t a b q x y h ha hb w
  obtain ⟨f1, f2⟩ := rel_not_float ha ja
  have n1 : ∀ k m k' n, x = .int k m → y = .int k' n → False := fun k m k' n e1 e2 => by
    subst e1 e2; exact hi _ _ _ _ (rel_int ha ja) (rel_int hb jb)
  have n2 : ∀ m n, x = .string m → y = .string n → False := fun m n e1 e2 => by
    subst e1 e2; exact hs _ _ (rel_str ha ja) (rel_str hb jb)
  have g : ∀ w, (eqGuard op t ox oy x y).run P w = .ok () w := guard_eq
    (fun e1 e2 => by subst e1 e2; exact hn (rel_nili ha ja) (rel_nili hb jb))
    (fun _ _ e1 e2 => by
      subst e1 e2
      obtain ⟨_, rfl⟩ := rel_agg ha ja; obtain ⟨_, rfl⟩ := rel_agg hb jb
      exact eqAV_agg hT h)
  constructor
  · rintro rfl w
    simp only [binRun, Sem.run_bind, g w, Result.andThen_ok, binOp_eql n1 f1 f2 n2, Op.equal, Op.maxDepth, hrun w, Sem.run_pure]
  · rintro rfl w
    simp only [binRun, Sem.run_bind, g w, Result.andThen_ok, binOp_neq n1 f1 f2 n2, Op.equal, Op.maxDepth, hrun w, Sem.run_pure]

omit hT in
theorem rel_int_self {k : IntKind} {n : Int} : AV.rel μ (.int k n) (.int k n) := by simp [AV.rel]
theorem bin_ok {op : BinOp} {t : TypeId} {ox oy : Operand} {con : Bool} {a b r : AV} {x y : Value} (hc : con = true → isCon ox = true ∨ isCon oy = true) (h : aBin T op t con a b = some r) (ha : AV.rel μ a x) (hb : AV.rel μ b y) :
    ∃ v, Yld P (binRun op t ox oy x y) v ∧ r.rel μ v := by
  have gi : ∀ {k m k' n}, ∀ w, (eqGuard op t ox oy (.int k m) (.int k' n)).run P w = .ok () w := fun w => guard_eq (fun e => (by cases e)) (fun _ _ e => (by cases e)) w
  have gs : ∀ {m n}, ∀ w, (eqGuard op t ox oy (.string m) (.string n)).run P w = .ok () w := fun w => guard_eq (fun e => (by cases e)) (fun _ _ e => (by cases e)) w
  have boolRel : ∀ {q : Bool}, AV.rel μ (.bool q) (.bool q) := by simp [AV.rel]
  unfold aBin at h
  split at h
  case h_1 =>
    obtain ⟨q, hq, rfl⟩ := Option.map_eq_some_iff.1 h
    simp only [AV.rel] at ha hb; subst ha hb
    refine ⟨_, fun w => ?_, rel_int_self⟩
    simp only [binRun, Sem.run_bind, gi w, Result.andThen_ok, shlI_ok P w t hq]
  case h_2 =>
    obtain ⟨q, hq, rfl⟩ := Option.map_eq_some_iff.1 h
    simp only [AV.rel] at ha hb; subst ha hb
    refine ⟨_, fun w => ?_, rel_int_self⟩
    simp only [binRun, Sem.run_bind, gi w, Result.andThen_ok, shrI_ok P w t hq]
  case h_3 =>
    rw [Str.brec] at h; split at h
    · rename_i hk; rw [keq_iff] at hk; subst hk
      simp only [AV.rel] at ha hb; subst ha hb
      obtain ⟨v, _, hv⟩ := binI_ok P (default : World) t h
      have same : ∀ w, (binOp op t _ _).run P w = .ok v w := fun w => by
        obtain ⟨v', h1, h2⟩ := binI_ok P w t h
        have e1 := hv noMu; have e2 := h2 noMu
        have : v' = v := by
          revert e1 e2
          cases r <;> simp only [AV.rel] <;> intro e1 e2 <;> first | (subst e1 e2; rfl) | skip
          all_goals (simp only [binI] at h; split at h <;> first | cases h | (injection h with h; cases h) | skip)
          all_goals first
            | (rw [Str.brec] at h; split at h <;> first | cases h | (injection h with h; cases h))
            | (obtain ⟨_, _, h⟩ := Option.map_eq_some_iff.1 h; cases h)
        rw [← this]; exact h1
      exact ⟨v, fun w => by simp only [binRun, Sem.run_bind, gi w, Result.andThen_ok, same w], hv μ⟩
    · cases h
  case h_4 =>
    obtain ⟨v, h1, h2⟩ := binS_ok (P := P) (t := t) h ha hb
    simp only [AV.rel] at ha hb
    obtain ⟨s, rfl, _⟩ := ha; obtain ⟨u, rfl, _⟩ := hb
    exact ⟨v, fun w => by simp only [binRun, Sem.run_bind, gs w, Result.andThen_ok, h1 w], h2⟩
  case h_5 =>
    split at h
    · obtain ⟨q, hq, rfl⟩ := Option.map_eq_some_iff.1 h
      exact ⟨_, (eqBin_ok hT hq ha hb (fun _ _ _ _ e => by cases e) (fun _ _ e => by cases e) (fun _ _ => hc rfl)).1 rfl, boolRel⟩
    · cases h
  case h_6 =>
    split at h
    · obtain ⟨q, hq, rfl⟩ := Option.map_eq_some_iff.1 h
      exact ⟨_, (eqBin_ok hT hq ha hb (fun _ _ _ _ e => by cases e) (fun _ _ e => by cases e) (fun _ _ => hc rfl)).2 rfl, boolRel⟩
    · cases h
  case h_7 h1 h2 h3 =>
    obtain ⟨q, hq, rfl⟩ := Option.map_eq_some_iff.1 h
    exact ⟨_, (eqBin_ok hT hq ha hb (fun k m k' n e e' => h1 k m k' n e e') (fun m n e e' => h2 m n e e') (fun e e' => (h3 e e').elim)).1 rfl, boolRel⟩
  case h_8 h1 h2 h3 =>
    obtain ⟨q, hq, rfl⟩ := Option.map_eq_some_iff.1 h
    exact ⟨_, (eqBin_ok hT hq ha hb (fun k m k' n e e' => h1 k m k' n e e') (fun m n e e' => h2 m n e e') (fun e e' => (h3 e e').elim)).2 rfl, boolRel⟩
  case h_9 => cases h
end
end Go.Am
