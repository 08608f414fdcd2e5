/- Byte strings as one number each: what the closed runs reckon with. -/
import GoSem.Dispatch
import Derived.Laws.Closers25
namespace Go.Am

/-- reckon a number now, then go on -/
noncomputable def seqN {α : Type} (n : Nat) (k : Nat → α) : α := Nat.rec (motive := fun _ => α) (k Nat.zero) (fun m _ => k (Nat.succ m)) n
@[simp] theorem seqN_eq {α : Type} (n : Nat) (k : Nat → α) : seqN n k = k n := by cases n <;> rfl

structure Str where
  len : Nat
  val : Nat
  deriving DecidableEq

namespace Str
def num (l : List UInt8) : Nat := l.foldl (fun a b => a * 256 + b.toNat) 0
def of (l : List UInt8) : Str := ⟨l.length, num l⟩
noncomputable def cat (a b : Str) : Str :=
  seqN (Nat.add a.len b.len) fun n => seqN (Nat.add (Nat.shiftLeft a.val (Nat.mul 8 b.len)) b.val) fun v => ⟨n, v⟩
noncomputable def get (s : Str) (i : Nat) : Nat := Nat.mod (Nat.shiftRight s.val (Nat.mul 8 (Nat.sub (Nat.sub s.len 1) i))) 256
noncomputable def sub (s : Str) (lo hi : Nat) : Str :=
  seqN (Nat.sub hi lo) fun n => seqN (Nat.mod (Nat.shiftRight s.val (Nat.mul 8 (Nat.sub s.len hi))) (Nat.shiftLeft 1 (Nat.mul 8 n))) fun v => ⟨n, v⟩
noncomputable def beq (a b : Str) : Bool := Bool.rec false (Nat.beq a.val b.val) (Nat.beq a.len b.len)
noncomputable def lt (a b : Str) : Bool :=
  Bool.rec
    (let y := Nat.shiftLeft b.val (Nat.mul 8 (Nat.sub a.len b.len)); Nat.blt a.val y)
    (let x := Nat.shiftLeft a.val (Nat.mul 8 (Nat.sub b.len a.len)); Bool.rec (Bool.rec false (Nat.blt a.len b.len) (Nat.beq x b.val)) true (Nat.blt x b.val))
    (Nat.ble a.len b.len)
noncomputable def set (s : Str) (i : Nat) (b : Nat) : Str := cat (cat (sub s 0 i) ⟨1, b⟩) (sub s (Nat.succ i) s.len)

theorem pow8 (n : Nat) : 2 ^ (8 * (n + 1)) = 2 ^ (8 * n) * 256 := by
  rw [show 8 * (n + 1) = 8 * n + 8 from by omega, Nat.pow_add]
theorem foldl_acc (b : List UInt8) : ∀ acc : Nat, b.foldl (fun a b => a * 256 + b.toNat) acc = acc * 2 ^ (8 * b.length) + num b := by
  induction b with
  | nil => intro acc; simp [num]
  | cons x b ih =>
    intro acc
    have h2 : num (x :: b) = x.toNat * 2 ^ (8 * b.length) + num b := by
      have := ih (0 * 256 + x.toNat); simpa [num] using this
    rw [List.foldl_cons, ih, h2, List.length_cons, pow8, Nat.add_mul, Nat.mul_assoc, Nat.mul_comm 256, Nat.add_assoc]
theorem num_cons (x : UInt8) (b : List UInt8) : num (x :: b) = x.toNat * 2 ^ (8 * b.length) + num b := by
  have := foldl_acc b (0 * 256 + x.toNat); simpa [num] using this
theorem num_append (a b : List UInt8) : num (a ++ b) = num a * 2 ^ (8 * b.length) + num b := by
  have := foldl_acc b (num a); simpa [num, List.foldl_append] using this
theorem num_lt (l : List UInt8) : num l < 2 ^ (8 * l.length) := by
  induction l with
  | nil => simp [num]
  | cons x b ih =>
    rw [num_cons, List.length_cons, pow8]
    have hx := x.toNat_lt
    have h1 : (x.toNat + 1) * 2 ^ (8 * b.length) ≤ 256 * 2 ^ (8 * b.length) := Nat.mul_le_mul_right _ (by omega)
    rw [Nat.add_mul] at h1
    rw [Nat.mul_comm _ 256]; omega
theorem cat_of (a b : List UInt8) : cat (of a) (of b) = of (a ++ b) := by
  simp [cat, of, num_append, Nat.shiftLeft_eq]
theorem num_inj : ∀ {a b : List UInt8}, a.length = b.length → num a = num b → a = b
  | [], [], _, _ => rfl
  | x :: a, y :: b, hl, h => by
    have hl' : a.length = b.length := by simpa using hl
    rw [num_cons, num_cons, hl'] at h
    have h1 := num_lt a; have h2 := num_lt b
    rw [hl'] at h1
    have hp : 0 < 2 ^ (8 * b.length) := Nat.pow_pos (by omega)
    have e1 : (x.toNat * 2 ^ (8 * b.length) + num a) / 2 ^ (8 * b.length) = x.toNat := by
      rw [Nat.mul_comm, Nat.mul_add_div hp, Nat.div_eq_of_lt h1]; omega
    have e2 : (y.toNat * 2 ^ (8 * b.length) + num b) / 2 ^ (8 * b.length) = y.toNat := by
      rw [Nat.mul_comm, Nat.mul_add_div hp, Nat.div_eq_of_lt h2]; omega
    have hx : x.toNat = y.toNat := by rw [← e1, ← e2, h]
    have hn : num a = num b := by rw [hx] at h; omega
    rw [num_inj hl' hn, UInt8.toNat_inj.1 hx]
theorem of_inj {a b : List UInt8} (h : of a = of b) : a = b := by
  injection h with h1 h2; exact num_inj h1 h2
theorem brec {α : Type} (b : Bool) (x y : α) : (Bool.rec x y b : α) = if b = true then y else x := by cases b <;> rfl
theorem beq_of (a b : List UInt8) : beq (of a) (of b) = (a == b) := by
  rw [Bool.eq_iff_iff, beq_iff_eq]
  unfold beq
  rw [brec]
  constructor
  · intro h
    split at h
    · rename_i hl; exact of_inj (by rw [Str.mk.injEq]; exact ⟨Nat.eq_of_beq_eq_true hl, Nat.eq_of_beq_eq_true h⟩)
    · cases h
  · rintro rfl; simp
theorem get_of (l : List UInt8) (i : Nat) (h : i < l.length) : get (of l) i = l[i].toNat := by
  have e : l = l.take i ++ l[i] :: l.drop (i + 1) := by simp
  have hn : num l = (num (l.take i) * 256 + l[i].toNat) * 2 ^ (8 * (l.length - 1 - i)) + num (l.drop (i + 1)) := by
    conv => lhs; rw [e]
    rw [num_append, num_cons, List.length_cons, pow8, List.length_drop, show l.length - (i + 1) = l.length - 1 - i from by omega, Nat.add_mul]
    rw [Nat.mul_assoc, Nat.mul_comm 256]; omega
  have hlt := num_lt (l.drop (i + 1))
  rw [List.length_drop, show l.length - (i + 1) = l.length - 1 - i from by omega] at hlt
  unfold get of
  simp only [Nat.sub_eq, Nat.mul_eq]
  show Nat.mod (Nat.shiftRight _ _) 256 = _
  have e2 : Nat.shiftRight (num l) (8 * (l.length - 1 - i)) = num (l.take i) * 256 + l[i].toNat := by
    rw [show Nat.shiftRight (num l) (8 * (l.length - 1 - i)) = num l >>> (8 * (l.length - 1 - i)) from rfl, Nat.shiftRight_eq_div_pow, hn, Nat.mul_comm, Nat.mul_add_div (Nat.pow_pos (by omega)), Nat.div_eq_of_lt hlt]; omega
  rw [e2]
  show (_ % 256) = _
  have := l[i].toNat_lt
  omega
theorem sub_of (l : List UInt8) (lo hi : Nat) (h1 : lo ≤ hi) (h2 : hi ≤ l.length) : sub (of l) lo hi = of ((l.take hi).drop lo) := by
  have hlen : ((l.take hi).drop lo).length = hi - lo := by simp; omega
  have e : l = l.take lo ++ ((l.take hi).drop lo ++ l.drop hi) := by
    have : l.take lo = (l.take hi).take lo := by rw [List.take_take]; congr 1; omega
    rw [this, ← List.append_assoc, List.take_append_drop, List.take_append_drop]
  have hn : num l = (num (l.take lo) * 2 ^ (8 * (hi - lo)) + num ((l.take hi).drop lo)) * 2 ^ (8 * (l.length - hi)) + num (l.drop hi) := by
    conv => lhs; rw [e]
    rw [num_append, num_append, List.length_append, hlen, List.length_drop, Nat.add_mul, Nat.mul_add, Nat.pow_add, Nat.mul_assoc]; omega
  have hlt := num_lt (l.drop hi)
  rw [List.length_drop] at hlt
  have hlt2 := num_lt ((l.take hi).drop lo)
  rw [hlen] at hlt2
  have e2 : Nat.shiftRight (num l) (8 * (l.length - hi)) = num (l.take lo) * 2 ^ (8 * (hi - lo)) + num ((l.take hi).drop lo) := by
    rw [show Nat.shiftRight (num l) (8 * (l.length - hi)) = num l >>> (8 * (l.length - hi)) from rfl, Nat.shiftRight_eq_div_pow]
    conv => lhs; rw [hn]
    rw [Nat.mul_comm, Nat.mul_add_div (Nat.pow_pos (by omega)), Nat.div_eq_of_lt hlt]; omega
  unfold sub
  simp only [seqN_eq]
  show Str.mk (Nat.sub hi lo) (Nat.mod (Nat.shiftRight (num l) (8 * (l.length - hi))) (Nat.shiftLeft 1 (8 * (hi - lo)))) = _
  rw [e2]
  unfold of
  rw [hlen, Str.mk.injEq]
  refine ⟨rfl, ?_⟩
  show (_ % ((1 : Nat) <<< (8 * (hi - lo)))) = _
  rw [Nat.one_shiftLeft, Nat.mul_comm, Nat.mul_add_mod, Nat.mod_eq_of_lt hlt2]
theorem set_of (l : List UInt8) (i : Nat) (b : UInt8) (h : i < l.length) : set (of l) i b.toNat = of (l.set i b) := by
  unfold set
  have h1 : (⟨1, b.toNat⟩ : Str) = of [b] := by simp [of, num]
  have h2 : (of l).len = l.length := rfl
  rw [h1, h2, sub_of l 0 i (by omega) (by omega), sub_of l (Nat.succ i) l.length (by omega) (Nat.le_refl _), cat_of, cat_of, List.set_eq_take_append_cons_drop, if_pos h]
  simp
theorem bytesLess_irrefl : ∀ l : List UInt8, Op.bytesLess l l = false
  | [] => rfl
  | x :: l => by simp [Op.bytesLess, bytesLess_irrefl l]
/-- the order of two texts of one length is that of their numbers -/
theorem less_same : ∀ {a b : List UInt8}, a.length = b.length → Op.bytesLess a b = decide (num a < num b)
  | [], [], _ => by simp [Op.bytesLess, num]
  | x :: a, y :: b, hl => by
    have hl' : a.length = b.length := by simpa using hl
    have h1 := num_lt a; have h2 := num_lt b
    rw [Op.bytesLess, less_same hl', num_cons, num_cons, hl']
    rw [hl'] at h1
    rw [Bool.eq_iff_iff]
    simp only [Bool.or_eq_true, Bool.and_eq_true, decide_eq_true_eq, beq_iff_eq]
    rw [UInt8.lt_iff_toNat_lt]
    generalize hp : 2 ^ (8 * b.length) = p at *
    constructor
    · rintro (h | ⟨rfl, h⟩)
      · have : (x.toNat + 1) * p ≤ y.toNat * p := Nat.mul_le_mul_right _ h
        rw [Nat.add_mul] at this; omega
      · omega
    · intro h
      rcases Nat.lt_trichotomy x.toNat y.toNat with hx | hx | hx
      · exact .inl hx
      · rw [hx] at h; exact .inr ⟨UInt8.toNat_inj.1 hx, by omega⟩
      · have : (y.toNat + 1) * p ≤ x.toNat * p := Nat.mul_le_mul_right _ hx
        rw [Nat.add_mul] at this; omega
theorem less_append : ∀ (a c b : List UInt8), a.length = c.length → Op.bytesLess a (c ++ b) = (Op.bytesLess a c || (a == c && !b.isEmpty))
  | [], [], b, _ => by cases b <;> simp [Op.bytesLess]
  | x :: a, y :: c, b, hl => by
    have hl' : a.length = c.length := by simpa using hl
    simp only [List.cons_append, Op.bytesLess, less_append a c b hl', List.cons_beq_cons]
    cases decide (x < y) <;> cases x == y <;> simp
theorem less_append' : ∀ (a c b : List UInt8), a.length = c.length → Op.bytesLess (c ++ b) a = Op.bytesLess c a
  | [], [], b, _ => by cases b <;> simp [Op.bytesLess]
  | x :: a, y :: c, b, hl => by
    have hl' : a.length = c.length := by simpa using hl
    simp only [List.cons_append, Op.bytesLess, less_append' a c b hl']
theorem num_take (b : List UInt8) (n : Nat) : num b = num (b.take n) * 2 ^ (8 * (b.length - n)) + num (b.drop n) := by
  conv => lhs; rw [← List.take_append_drop n b, num_append, List.length_drop]
theorem lt_of (a b : List UInt8) : lt (of a) (of b) = Op.bytesLess a b := by
  unfold lt
  simp only [brec]
  show (if Nat.ble a.length b.length = true then _ else _) = _
  by_cases hl : a.length ≤ b.length
  · rw [if_pos (by rw [Nat.ble_eq]; exact hl)]
    have hb : b = b.take a.length ++ b.drop a.length := by simp
    have hlen : a.length = (b.take a.length).length := by simp; omega
    have hn := num_take b a.length
    have hlt := num_lt (b.drop a.length); rw [List.length_drop] at hlt
    conv => rhs; rw [hb]
    rw [less_append _ _ _ hlen, less_same hlen]
    show (if Nat.blt (Nat.shiftLeft (num a) (8 * (b.length - a.length))) (num b) = true then true else if Nat.beq (Nat.shiftLeft (num a) (8 * (b.length - a.length))) (num b) = true then Nat.blt a.length b.length else false) = _
    rw [show Nat.shiftLeft (num a) (8 * (b.length - a.length)) = num a * 2 ^ (8 * (b.length - a.length)) from Nat.shiftLeft_eq _ _, hn]
    generalize hp : 2 ^ (8 * (b.length - a.length)) = p at *
    generalize hc : b.take a.length = c at *
    generalize hd : b.drop a.length = d at *
    have hdl : d.isEmpty = decide (b.length ≤ a.length) := by subst hd; rw [Bool.eq_iff_iff]; simp
    rw [hdl]
    rw [Bool.eq_iff_iff]
    have hblt : ∀ x y, (Nat.blt x y = true) ↔ x < y := fun x y => by simp [Nat.blt, Nat.lt_iff_add_one_le]
    by_cases h1 : num a < num c
    · have : (num a + 1) * p ≤ num c * p := Nat.mul_le_mul_right _ h1
      rw [Nat.add_mul] at this
      rw [if_pos ((hblt _ _).2 (by omega))]; simp [h1]
    · by_cases h2 : num a = num c
      · have hac : a = c := num_inj hlen h2
        subst hac
        by_cases h3 : num d = 0
        · rw [if_neg (by rw [hblt]; omega), if_pos (by rw [h3]; rw [Nat.beq_eq]; try omega), hblt]; simp
        · rw [if_pos ((hblt _ _).2 (by omega))]
          have : d ≠ [] := fun h => h3 (by rw [h]; rfl)
          have : d.isEmpty = false := by cases d; exact absurd rfl this; rfl
          rw [hdl] at this
          simp [this]
      · have : (num c + 1) * p ≤ num a * p := Nat.mul_le_mul_right _ (by omega)
        rw [Nat.add_mul] at this
        rw [if_neg (by rw [hblt]; omega), if_neg (by intro h; have := Nat.eq_of_beq_eq_true h; omega)]
        have hne : a ≠ c := fun h => h2 (by rw [h])
        simp [hne]; omega
  · rw [if_neg (by rw [Nat.ble_eq]; exact hl)]
    have hl' : b.length ≤ a.length := by omega
    have ha : a = a.take b.length ++ a.drop b.length := by simp
    have hlen : b.length = (a.take b.length).length := by simp; omega
    have hn := num_take a b.length
    have hlt := num_lt (a.drop b.length); rw [List.length_drop] at hlt
    conv => rhs; rw [ha]
    rw [less_append' _ _ _ hlen, less_same hlen.symm]
    show Nat.blt (num a) (Nat.shiftLeft (num b) (8 * (a.length - b.length))) = _
    rw [show Nat.shiftLeft (num b) (8 * (a.length - b.length)) = num b * 2 ^ (8 * (a.length - b.length)) from Nat.shiftLeft_eq _ _, hn]
    generalize hp : 2 ^ (8 * (a.length - b.length)) = p at *
    generalize num (a.take b.length) = c at *
    generalize num (a.drop b.length) = d at *
    have hblt : ∀ x y, (Nat.blt x y = true) ↔ x < y := fun x y => by simp [Nat.blt, Nat.lt_iff_add_one_le]
    rw [Bool.eq_iff_iff, hblt, decide_eq_true_eq]
    constructor
    · intro h
      rcases Nat.lt_or_ge c (num b) with h1 | h1
      · exact h1
      · have : num b * p ≤ c * p := Nat.mul_le_mul_right _ h1
        omega
    · intro h
      have : (c + 1) * p ≤ num b * p := Nat.mul_le_mul_right _ h
      rw [Nat.add_mul] at this; omega
end Str
end Go.Am
