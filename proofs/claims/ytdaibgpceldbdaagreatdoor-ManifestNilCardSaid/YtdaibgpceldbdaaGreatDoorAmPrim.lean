/- Small functions in continuation style: what the runs reckon with. -/
import Derived.Test.YtdaibgpceldbdaaGreatDoorAmIter
namespace Go.Am
open Go

/-- a plain name for 'Prop': what names it is unfolded before what does not, while functions are compared -/
def P1a : Type := Prop
def P1b : Type := P1a
def P1c : Type := P1b
def P1d : Type := P1c
def P1e : Type := P1d
def P2 : Type := P1e

/-! ## a value, reckoned now -/
noncomputable def fN (m : Nat) (k : Nat → Prop) : Prop := Nat.rec (motive := fun _ => Prop) (k 0) (fun m _ => k (Nat.succ m)) m
noncomputable def fI (n : Int) (k : Int → Prop) : Prop := Int.rec (motive := fun _ => Prop) (fun m => Nat.rec (motive := fun _ => Prop) (k (Int.ofNat 0)) (fun m _ => k (Int.ofNat (Nat.succ m))) m) (fun m => Nat.rec (motive := fun _ => Prop) (k (Int.negSucc 0)) (fun m _ => k (Int.negSucc (Nat.succ m))) m) n
noncomputable def fB (b : Bool) (k : Bool → Prop) : Prop := Bool.rec (motive := fun _ => Prop) (k false) (k true) b
noncomputable def fS (s : Str) (k : Str → Prop) : Prop := Str.rec (motive := fun _ => Prop) (fun l v => fN l fun l => fN v fun v => k ⟨l, v⟩) s
/-- if c then a else b -/
noncomputable def br (c : Bool) (a b : Prop) : Prop := Bool.rec (motive := fun _ => P2) b a c
/-- c, and then -/
noncomputable def ck (c : Bool) (a : Prop) : Prop := Bool.rec (motive := fun _ => P2) False a c
noncomputable def op' {α : Type} (o : Option α) (k : α → Prop) : Prop := Option.rec (motive := fun _ => P2) False (fun a => k a) o
theorem fN_eq (m : Nat) (k : Nat → Prop) : fN m k = k m := by cases m <;> rfl
theorem fI_eq (n : Int) (k : Int → Prop) : fI n k = k n := by rcases n with m | m <;> cases m <;> rfl
theorem fB_eq (b : Bool) (k : Bool → Prop) : fB b k = k b := by cases b <;> rfl
theorem fS_eq (s : Str) (k : Str → Prop) : fS s k = k s := by cases s; simp only [fS, fN_eq]
theorem br_iff (c : Bool) (a b : Prop) : br c a b ↔ (c = true ∧ a) ∨ (c = false ∧ b) := by cases c <;> simp [br]
theorem br_true (a b : Prop) : br true a b = a := rfl
theorem br_false (a b : Prop) : br false a b = b := rfl
theorem ck_iff (c : Bool) (a : Prop) : ck c a ↔ c = true ∧ a := by cases c <;> simp [ck]
theorem op'_iff {α : Type} (o : Option α) (k : α → Prop) : op' o k ↔ ∃ a, o = some a ∧ k a := by cases o <;> simp [op']

/-! ## taking a value apart -/
noncomputable def AV.asInt : AV → (IntKind → Int → Prop) → Prop := @AV.rec (fun _ => (IntKind → Int → Prop) → P2) (fun _ => Unit)
  (fun _ => False) (fun _ _ => False) (fun kk n k => k kk n) (fun _ _ => False) (fun _ => False) (fun _ _ _ => False) (fun _ => False) (fun _ _ _ _ _ _ _ => False) (fun _ => False) (fun _ _ => False) (fun _ _ _ _ _ _ => False) (fun _ => False) (fun _ _ _ _ => False) (fun _ => False) (fun _ _ _ => False) (fun _ _ _ => False) (fun _ _ => False) () (fun _ _ _ _ => ())
noncomputable def asB : AV → (Bool → Prop) → Prop := @AV.rec (fun _ => (Bool → Prop) → P2) (fun _ => Unit)
  (fun _ => False) (fun b k => k b) (fun _ _ _ => False) (fun _ _ => False) (fun _ => False) (fun _ _ _ => False) (fun _ => False) (fun _ _ _ _ _ _ _ => False) (fun _ => False) (fun _ _ => False) (fun _ _ _ _ _ _ => False) (fun _ => False) (fun _ _ _ _ => False) (fun _ => False) (fun _ _ _ => False) (fun _ _ _ => False) (fun _ _ => False) () (fun _ _ _ _ => ())
noncomputable def asS : AV → (Str → Prop) → Prop := @AV.rec (fun _ => (Str → Prop) → P2) (fun _ => Unit)
  (fun _ => False) (fun _ _ => False) (fun _ _ _ => False) (fun s k => k s) (fun _ => False) (fun _ _ _ => False) (fun _ => False) (fun _ _ _ _ _ _ _ => False) (fun _ => False) (fun _ _ => False) (fun _ _ _ _ _ _ => False) (fun _ => False) (fun _ _ _ _ => False) (fun _ => False) (fun _ _ _ => False) (fun _ _ _ => False) (fun _ _ => False) () (fun _ _ _ _ => ())
noncomputable def asPtr : AV → (Nat → Nat → Prop) → Prop := @AV.rec (fun _ => (Nat → Nat → Prop) → P2) (fun _ => Unit)
  (fun _ => False) (fun _ _ => False) (fun _ _ _ => False) (fun _ _ => False) (fun _ => False) (fun i o k => k i o) (fun _ => False) (fun _ _ _ _ _ _ _ => False) (fun _ => False) (fun _ _ => False) (fun _ _ _ _ _ _ => False) (fun _ => False) (fun _ _ _ _ => False) (fun _ => False) (fun _ _ _ => False) (fun _ _ _ => False) (fun _ _ => False) () (fun _ _ _ _ => ())
/-- a slice: nil, or not -/
noncomputable def asSl : AV → Prop → (Nat → Nat → Nat → Nat → Nat → Bool → Prop) → Prop := @AV.rec (fun _ => Prop → (Nat → Nat → Nat → Nat → Nat → Bool → Prop) → P2) (fun _ => Unit)
  (fun _ _ => False) (fun _ _ _ => False) (fun _ _ _ _ => False) (fun _ _ _ => False) (fun _ _ => False) (fun _ _ _ _ => False) (fun n _ => n) (fun i o l c e x _ k => k i o l c e x) (fun _ _ => False) (fun _ _ _ => False) (fun _ _ _ _ _ _ _ => False) (fun _ _ => False) (fun _ _ _ _ _ => False) (fun _ _ => False) (fun _ _ _ _ => False) (fun _ _ _ _ => False) (fun _ _ _ => False) () (fun _ _ _ _ => ())
noncomputable def asAgg : AV → (List AV → Prop) → Prop := @AV.rec (fun _ => (List AV → Prop) → P2) (fun _ => Unit)
  (fun _ => False) (fun _ _ => False) (fun _ _ _ => False) (fun _ _ => False) (fun _ => False) (fun _ _ _ => False) (fun _ => False) (fun _ _ _ _ _ _ _ => False) (fun _ => False) (fun _ _ => False) (fun _ _ _ _ _ _ => False) (fun _ => False) (fun _ _ _ _ => False) (fun _ => False) (fun cs _ k => k cs) (fun _ _ _ => False) (fun _ _ => False) () (fun _ _ _ _ => ())
noncomputable def asTup : AV → (List AV → Prop) → Prop := @AV.rec (fun _ => (List AV → Prop) → P2) (fun _ => Unit)
  (fun _ => False) (fun _ _ => False) (fun _ _ _ => False) (fun _ _ => False) (fun _ => False) (fun _ _ _ => False) (fun _ => False) (fun _ _ _ _ _ _ _ => False) (fun _ => False) (fun _ _ => False) (fun _ _ _ _ _ _ => False) (fun _ => False) (fun _ _ _ _ => False) (fun _ => False) (fun _ _ _ => False) (fun vs _ k => k vs) (fun _ _ => False) () (fun _ _ _ _ => ())
/-- what stands in the slot of an operation that was not done -/
def skipV : AV := .tuple []
/-- a bool, or nothing, since it was not done -/
noncomputable def asBU : AV → (Bool → Prop) → Prop → Prop := @AV.rec (fun _ => (Bool → Prop) → Prop → P2) (fun _ => Unit)
  (fun _ _ => False) (fun b k _ => k b) (fun _ _ _ _ => False) (fun _ _ _ => False) (fun _ _ => False) (fun _ _ _ _ => False) (fun _ _ => False) (fun _ _ _ _ _ _ _ _ => False) (fun _ _ => False) (fun _ _ _ => False) (fun _ _ _ _ _ _ _ => False) (fun _ _ => False) (fun _ _ _ _ _ => False) (fun _ _ => False) (fun _ _ _ _ => False) (fun vs _ _ n => List.rec (motive := fun _ => Prop) n (fun _ _ _ => False) vs) (fun _ _ _ => False) () (fun _ _ _ _ => ())
/-- nothing that hides several cells -/
noncomputable def isOne : AV → Bool := @AV.rec (fun _ => Bool) (fun _ => Unit)
  false (fun _ => true) (fun _ _ => true) (fun _ => true) true (fun _ _ => true) true (fun _ _ _ _ _ _ => true) true (fun _ => true) (fun _ _ _ _ _ => true) true (fun _ _ _ => true) true (fun _ _ => false) (fun _ _ => false) (fun _ => true) () (fun _ _ _ _ => ())
/-- 0: nil, 1: not nil, 2: neither can be said -/
noncomputable def nilCode : AV → Nat := @AV.rec (fun _ => Nat) (fun _ => Unit)
  9 (fun _ => 9) (fun _ _ => 9) (fun _ => 9) 0 (fun _ _ => 1) 2 (fun _ _ _ _ _ _ => 3) 4 (fun _ => 5) (fun _ _ _ _ _ => 7) 6 (fun _ _ _ => 11) 10 (fun _ _ => 9) (fun _ _ => 9) (fun _ => 9) () (fun _ _ _ _ => ())
theorem asInt_iff {v : AV} {k : IntKind → Int → Prop} : v.asInt k ↔ ∃ kk n, v = .int kk n ∧ k kk n := by
  cases v <;> first | (constructor <;> (intro h; first | exact h.elim | (obtain ⟨_, _, h, _⟩ := h; cases h)); done) | skip
  constructor
  · intro h; exact ⟨_, _, rfl, h⟩
  · rintro ⟨_, _, h, h2⟩; injection h with e1 e2; subst e1 e2; exact h2
theorem asB_iff {v : AV} {k : Bool → Prop} : asB v k ↔ ∃ b, v = .bool b ∧ k b := by
  cases v <;> first | (constructor <;> (intro h; first | exact h.elim | (obtain ⟨_, h, _⟩ := h; cases h)); done) | skip
  constructor
  · intro h; exact ⟨_, rfl, h⟩
  · rintro ⟨_, h, h2⟩; injection h with e1; subst e1; exact h2
theorem asBU_iff {v : AV} {k : Bool → Prop} {n : Prop} : asBU v k n ↔ (∃ b, v = .bool b ∧ k b) ∨ (v = skipV ∧ n) := by
  cases v <;> first | (constructor <;> (intro h; first | exact h.elim | (rcases h with ⟨_, h, _⟩ | ⟨h, _⟩ <;> cases h)); done) | skip
  · constructor
    · intro h; exact .inl ⟨_, rfl, h⟩
    · rintro (⟨_, h, h2⟩ | ⟨h, _⟩)
      · injection h with e1; subst e1; exact h2
      · cases h
  · rename_i vs
    cases vs with
    | nil =>
      constructor
      · intro h; exact .inr ⟨rfl, h⟩
      · rintro (⟨_, h, _⟩ | ⟨_, h⟩)
        · cases h
        · exact h
    | cons a t =>
      constructor
      · intro h; exact h.elim
      · rintro (⟨_, h, _⟩ | ⟨h, _⟩) <;> cases h
theorem asS_iff {v : AV} {k : Str → Prop} : asS v k ↔ ∃ b, v = .str b ∧ k b := by
  cases v <;> first | (constructor <;> (intro h; first | exact h.elim | (obtain ⟨_, h, _⟩ := h; cases h)); done) | skip
  constructor
  · intro h; exact ⟨_, rfl, h⟩
  · rintro ⟨_, h, h2⟩; injection h with e1; subst e1; exact h2
theorem asPtr_iff {v : AV} {k : Nat → Nat → Prop} : asPtr v k ↔ ∃ i o, v = .ptr i o ∧ k i o := by
  cases v <;> first | (constructor <;> (intro h; first | exact h.elim | (obtain ⟨_, _, h, _⟩ := h; cases h)); done) | skip
  constructor
  · intro h; exact ⟨_, _, rfl, h⟩
  · rintro ⟨_, _, h, h2⟩; injection h with e1 e2; subst e1 e2; exact h2
theorem asSl_iff {v : AV} {n : Prop} {k : Nat → Nat → Nat → Nat → Nat → Bool → Prop} : asSl v n k ↔ (v = .nils ∧ n) ∨ ∃ i o l c e x, v = .slice i o l c e x ∧ k i o l c e x := by
  cases v <;> first | (constructor <;> (intro h; first | exact h.elim | (rcases h with ⟨h, _⟩ | ⟨_, _, _, _, _, _, h, _⟩ <;> cases h)); done) | skip
  · constructor
    · intro h; exact .inl ⟨rfl, h⟩
    · rintro (⟨_, h⟩ | ⟨_, _, _, _, _, _, h, _⟩); exact h; cases h
  · constructor
    · intro h; exact .inr ⟨_, _, _, _, _, _, rfl, h⟩
    · rintro (⟨h, _⟩ | ⟨_, _, _, _, _, _, h, h2⟩); cases h; cases h; exact h2
theorem asAgg_iff {v : AV} {k : List AV → Prop} : asAgg v k ↔ ∃ b, v = .agg b ∧ k b := by
  cases v <;> first | (constructor <;> (intro h; first | exact h.elim | (obtain ⟨_, h, _⟩ := h; cases h)); done) | skip
  constructor
  · intro h; exact ⟨_, rfl, h⟩
  · rintro ⟨_, h, h2⟩; injection h with e1; subst e1; exact h2
theorem asTup_iff {v : AV} {k : List AV → Prop} : asTup v k ↔ ∃ b, v = .tuple b ∧ k b := by
  cases v <;> first | (constructor <;> (intro h; first | exact h.elim | (obtain ⟨_, h, _⟩ := h; cases h)); done) | skip
  constructor
  · intro h; exact ⟨_, rfl, h⟩
  · rintro ⟨_, h, h2⟩; injection h with e1; subst e1; exact h2
noncomputable def asI (kk : IntKind) (v : AV) (k : Int → Prop) : Prop := v.asInt fun k' n => ck (keq k' kk) (k n)
theorem asI_iff {kk : IntKind} {v : AV} {k : Int → Prop} : asI kk v k ↔ ∃ n, v = .int kk n ∧ k n := by
  unfold asI; rw [asInt_iff]
  constructor
  · rintro ⟨k', n, rfl, h⟩; rw [ck_iff, keq_iff] at h; obtain ⟨rfl, h⟩ := h; exact ⟨n, rfl, h⟩
  · rintro ⟨n, rfl, h⟩; exact ⟨_, _, rfl, by rw [ck_iff, keq_iff]; exact ⟨rfl, h⟩⟩
/-- a number of any kind that is not below 0 -/
noncomputable def asNat (v : AV) (k : Nat → Prop) : Prop := v.asInt fun _ n => Int.rec (motive := fun _ => Prop) (fun m => k m) (fun _ => False) n
theorem asNat_iff {v : AV} {k : Nat → Prop} : asNat v k ↔ ∃ kk n, v = .int kk (.ofNat n) ∧ k n := by
  unfold asNat; rw [asInt_iff]
  constructor
  · rintro ⟨k', n, rfl, h⟩; cases n with
    | ofNat m => exact ⟨_, m, rfl, h⟩
    | negSucc m => exact h.elim
  · rintro ⟨kk, n, rfl, h⟩; exact ⟨_, _, rfl, h⟩
/-- a value of a kind: what is known of it is laid open -/
noncomputable def castK (kd : Kd) (v : AV) (k : AV → Prop) : Prop :=
  match kd with
  | .bool => asB v fun b => k (.bool b)
  | .int kk => asI kk v fun n => k (.int kk n)
  | .str => asS v fun s => k (.str s)
  | _ => k v
theorem castK_imp {kd : Kd} {v : AV} {k : AV → Prop} (h : castK kd v k) : k v := by
  unfold castK at h; split at h
  · rw [asB_iff] at h; obtain ⟨_, rfl, h⟩ := h; exact h
  · rw [asI_iff] at h; obtain ⟨_, rfl, h⟩ := h; exact h
  · rw [asS_iff] at h; obtain ⟨_, rfl, h⟩ := h; exact h
  · exact h

/-! ## a block taken apart; the heap -/
noncomputable def asRow' : Blk → (Bool → Nat → List AV → Prop) → (Nat → Nat → Bool → Str → Prop) → Prop := @Blk.rec (fun _ => (Bool → Nat → List AV → Prop) → (Nat → Nat → Bool → Str → Prop) → Prop)
  (fun _ _ => False) (fun m t cs k _ => k m t cs) (fun t f g s _ k => k t f g s) (fun _ _ _ _ => False) (fun _ _ _ => False) (fun _ _ _ _ _ _ => False) (fun _ _ _ _ _ _ _ _ => False) (fun _ _ _ => False)
theorem asRow'_iff {b : Blk} {k1 : Bool → Nat → List AV → Prop} {k2 : Nat → Nat → Bool → Str → Prop} : asRow' b k1 k2 ↔ (∃ m t cs, b = .cells m t cs ∧ k1 m t cs) ∨ (∃ t f g s, b = .bytes t f g s ∧ k2 t f g s) := by
  cases b <;> first | (constructor <;> (intro h; first | exact h.elim | (rcases h with ⟨_, _, _, h, _⟩ | ⟨_, _, _, _, h, _⟩ <;> cases h)); done) | skip
  · constructor
    · intro h; exact .inl ⟨_, _, _, rfl, h⟩
    · rintro (⟨_, _, _, h, h2⟩ | ⟨_, _, _, _, h, _⟩); cases h; exact h2; cases h
  · constructor
    · intro h; exact .inr ⟨_, _, _, _, rfl, h⟩
    · rintro (⟨_, _, _, h, h2⟩ | ⟨_, _, _, _, h, h2⟩); cases h; cases h; exact h2
noncomputable def pushK (b : Blk) (h : H) (k : Nat → H → Prop) : Prop :=
  H.rec (motive := fun _ => Prop) (fun m n bs => Tr.setK m n b fun m' => fN (Nat.succ n) fun n' => k n ⟨m', n', bs⟩) h
theorem pushK_eq (b : Blk) (h : H) (k : Nat → H → Prop) : pushK b h k = k h.next ⟨Tr.set h.mem h.next b, Nat.succ h.next, h.base⟩ := by
  cases h; simp only [pushK, Tr.setK_eq, fN_eq]
theorem pushK_iff {b : Blk} {h : H} {k : Nat → H → Prop} : pushK b h k ↔ ∃ n h', h.push b = some (n, h') ∧ k n h' := by
  rw [pushK_eq]; unfold H.push
  constructor
  · intro hk; exact ⟨_, _, rfl, hk⟩
  · rintro ⟨n, h', e, hk⟩; injection e with e; injection e with e1 e2; subst e1 e2; exact hk
noncomputable def putK (id : Nat) (b : Blk) (h : H) (k : H → Prop) : Prop :=
  H.rec (motive := fun _ => Prop) (fun m n bs => ck (Nat.blt id n) (ck (Nat.ble bs id) (Tr.setK m id b fun m' => k ⟨m', n, bs⟩))) h
theorem putK_iff {id : Nat} {b : Blk} {h : H} {k : H → Prop} : putK id b h k ↔ ∃ h', h.put id b = some h' ∧ k h' := by
  cases h with | mk m n bs =>
  unfold putK
  simp only [ck_iff, Tr.setK_eq, blt_iff, ble_iff]
  rw [H.put_eq]
  constructor
  · rintro ⟨h1, h2, h3⟩; exact ⟨_, if_pos ⟨h1, h2⟩, h3⟩
  · rintro ⟨h', e, hk⟩
    split at e
    · rename_i hc; injection e with e; subst e; exact ⟨hc.1, hc.2, hk⟩
    · cases e

/-! ## reading -/
noncomputable def ldV (p : AV) (h : H) (k : AV → Prop) : Prop := asPtr p fun id off => asRow' (h.get id) (fun _ _ cs => op' (lgetO cs off) k) fun _ _ _ s => ck (Nat.blt off s.len) (fN (s.get off) fun c => k (.int .u8 (Int.ofNat c)))
noncomputable def ldB (p : AV) (h : H) (k : Bool → Prop) : Prop := ldV p h fun v => asB v k
noncomputable def ldI (kk : IntKind) (p : AV) (h : H) (k : Int → Prop) : Prop := ldV p h fun v => asI kk v k
noncomputable def ldS (p : AV) (h : H) (k : Str → Prop) : Prop := ldV p h fun v => asS v k
noncomputable def ldN (n : Nat) (p : AV) (h : H) (k : List AV → Prop) : Prop := asPtr p fun id off => asRow' (h.get id) (fun _ _ cs => op' (ltake n (ldrop off cs)) k) fun _ _ _ _ => False
theorem ldV_imp {p : AV} {h : H} {k : AV → Prop} (e : ldV p h k) : ∃ v, aLoad1 p h = some v ∧ k v := by
  unfold ldV at e
  rw [asPtr_iff] at e; obtain ⟨i, o, rfl, e⟩ := e
  rw [asRow'_iff] at e
  unfold aLoad1
  rcases e with ⟨m, t, cs, hg, e⟩ | ⟨t, f, g, s, hg, e⟩
  · rw [op'_iff] at e; obtain ⟨v, hv, hk⟩ := e
    exact ⟨v, by simp only [hg, hv], hk⟩
  · rw [ck_iff, fN_eq] at e
    exact ⟨_, by simp only [hg, e.1], e.2⟩
theorem ldN_imp {n : Nat} {p : AV} {h : H} {k : List AV → Prop} (e : ldN n p h k) : ∃ l, aLoadN n p h = some (.agg l) ∧ k l := by
  unfold ldN at e
  rw [asPtr_iff] at e; obtain ⟨i, o, rfl, e⟩ := e
  rw [asRow'_iff] at e
  unfold aLoadN
  rcases e with ⟨m, t, cs, hg, e⟩ | ⟨t, f, g, s, hg, e⟩
  · rw [op'_iff] at e; obtain ⟨v, hv, hk⟩ := e
    exact ⟨v, by simp only [hg, hv], hk⟩
  · exact e.elim

/-! ## writing -/
noncomputable def stV (p x : AV) (h : H) (k : H → Prop) : Prop := asPtr p fun id off => asRow' (h.get id)
  (fun m t cs => ck (isOne x) (op' (lputAt off [x] cs) fun cs' => putK id (.cells m t cs') h k))
  fun t fz sg s => asNat x fun c => ck (Nat.blt off s.len) (ck (Nat.ble fz off) (ck (Nat.blt c 256) (fS (s.set off c) fun s' => asI .u8 x fun _ => putK id (.bytes t fz sg s') h k)))
noncomputable def allOnes (l : List AV) : Bool := List.rec (motive := fun _ => Bool) true (fun a _ ih => Bool.rec (motive := fun _ => Bool) false ih (isOne a)) l
noncomputable def stN (n : Nat) (p : AV) (xs : List AV) (h : H) (k : H → Prop) : Prop := asPtr p fun id off => asRow' (h.get id)
  (fun m t cs => ck (Nat.beq xs.length n) (ck (allOnes xs) (op' (lputAt off xs cs) fun cs' => putK id (.cells m t cs') h k))) fun _ _ _ _ => False
theorem isOne_eq (v : AV) : isOne v = v.one := by cases v <;> rfl
theorem allOnes_eq : ∀ l : List AV, allOnes l = allOne l
  | [] => rfl
  | a :: t => by
    show (Bool.rec (motive := fun _ => Bool) false (allOnes t) (isOne a)) = _
    rw [isOne_eq, allOnes_eq t]
    cases h : a.one <;> simp only [allOne, h]
theorem acells_one {x : AV} (h : isOne x = true) : acells x = some [x] := by cases x <;> first | rfl | cases h
theorem stV_imp {p x : AV} {h : H} {k : H → Prop} (e : stV p x h k) : ∃ h', aStore 1 p x h = some h' ∧ k h' := by
  unfold stV at e
  rw [asPtr_iff] at e; obtain ⟨i, o, rfl, e⟩ := e
  rw [asRow'_iff] at e
  unfold aStore
  rcases e with ⟨m, t, cs, hg, e⟩ | ⟨t, f, g, s, hg, e⟩
  · rw [ck_iff, op'_iff] at e
    obtain ⟨h1, cs', h2, e⟩ := e
    rw [putK_iff] at e
    obtain ⟨h', h3, hk⟩ := e
    refine ⟨h', ?_, hk⟩
    have h4 : allOne [x] = true := by unfold allOne; rw [← isOne_eq, h1]; rfl
    simp only [hg, acells_one h1, h2, h4, Str.brec]
    simpa using h3
  · rw [asNat_iff] at e
    obtain ⟨kk, c, rfl, e⟩ := e
    simp only [ck_iff, fS_eq] at e
    obtain ⟨h1, h2, h3, e⟩ := e
    rw [asI_iff] at e
    obtain ⟨n, hn, e⟩ := e
    injection hn with hn _; subst hn
    rw [putK_iff] at e
    obtain ⟨h', h4, hk⟩ := e
    refine ⟨h', ?_, hk⟩
    simp only [hg, h1, h2, h3, Str.brec]
    simpa using h4
theorem stN_imp {n : Nat} {p : AV} {xs : List AV} {h : H} {k : H → Prop} (e : stN n p xs h k) : ∃ h', aStore n p (.agg xs) h = some h' ∧ k h' := by
  unfold stN at e
  rw [asPtr_iff] at e; obtain ⟨i, o, rfl, e⟩ := e
  rw [asRow'_iff] at e
  unfold aStore
  rcases e with ⟨m, t, cs, hg, e⟩ | ⟨t, f, g, s, hg, e⟩
  · simp only [ck_iff, op'_iff] at e
    obtain ⟨h0, h1, cs', h2, e⟩ := e
    rw [putK_iff] at e
    obtain ⟨h', h3, hk⟩ := e
    refine ⟨h', ?_, hk⟩
    rw [allOnes_eq] at h1
    simp only [hg, acells, h0, h1, h2, Str.brec]
    simpa using h3
  · exact e.elim
end Go.Am
