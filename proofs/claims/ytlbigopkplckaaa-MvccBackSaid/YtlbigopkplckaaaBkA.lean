/- Keys stand in the store in the order of what they are of. No condition. -/
import Derived.Test.YtlbigopkplckaaaRdR
namespace Go.Proofs.Ytlbigopkplckaaa
open Go Go.Am
set_option linter.all false
set_option maxRecDepth 100000
theorem bl_cons (x y : UInt8) (a b : List UInt8) : Op.bytesLess (x :: a) (y :: b) = (decide (x < y) || (x == y && Op.bytesLess a b)) := rfl
theorem bl_same (x : UInt8) (a b : List UInt8) : Op.bytesLess (x :: a) (x :: b) = Op.bytesLess a b := by
  rw [bl_cons]; simp
theorem bl_app : ∀ (c a b : List UInt8), Op.bytesLess (c ++ a) (c ++ b) = Op.bytesLess a b
  | [], a, b => rfl
  | x :: c, a, b => by
    rw [List.cons_append, List.cons_append, bl_same, bl_app c a b]
theorem u0 {c : UInt8} (h : c ≠ 0) : decide ((0 : UInt8) < c) = true := by
  rw [decide_eq_true_eq, UInt8.lt_iff_toNat_lt]
  have : c.toNat ≠ 0 := fun e => h (UInt8.toNat_inj.1 e)
  show 0 < c.toNat
  omega
theorem n0 (c : UInt8) : decide (c < (0 : UInt8)) = false := by
  rw [decide_eq_false_iff_not, UInt8.lt_iff_toNat_lt]
  show ¬ c.toNat < 0
  omega
theorem ne0 {c : UInt8} (h : c ≠ 0) : (c == (0 : UInt8)) = false := by simp [h]
theorem ne0' {c : UInt8} (h : c ≠ 0) : ((0 : UInt8) == c) = false := by
  cases e : ((0 : UInt8) == c)
  · rfl
  · exact absurd (eq_of_beq e).symm h
/-- the middles of keys, with something behind them, stand as the keys do -/
theorem bl_mid : ∀ (a b x y : List UInt8), Op.bytesLess (mid a ++ x) (mid b ++ y) = (Op.bytesLess a b || (decide (a = b) && Op.bytesLess x y))
  | [], [], x, y => by
    rw [mid_nil, bl_app]; simp [Op.bytesLess]
  | [], c :: b, x, y => by
    rw [mid_nil, mid_cons]
    by_cases hc : c = 0
    · subst hc; rw [esc_0]
      show Op.bytesLess (0 :: 1 :: x) (0 :: 255 :: (mid b ++ y)) = _
      rw [bl_same, bl_cons]; simp [Op.bytesLess]
    · rw [esc_n hc]
      show Op.bytesLess (0 :: 1 :: x) (c :: (mid b ++ y)) = _
      rw [bl_cons, u0 hc]; simp [Op.bytesLess]
  | c :: a, [], x, y => by
    rw [mid_nil, mid_cons]
    by_cases hc : c = 0
    · subst hc; rw [esc_0]
      show Op.bytesLess (0 :: 255 :: (mid a ++ x)) (0 :: 1 :: y) = _
      rw [bl_same, bl_cons]; simp [Op.bytesLess]
    · rw [esc_n hc]
      show Op.bytesLess (c :: (mid a ++ x)) (0 :: 1 :: y) = _
      rw [bl_cons, n0, ne0 hc]; simp [Op.bytesLess]
  | c :: a, d :: b, x, y => by
    have ih := bl_mid a b x y
    rw [mid_cons, mid_cons, List.append_assoc, List.append_assoc]
    by_cases h : c = d
    · subst h
      rw [bl_app, ih, bl_same]
      have e : decide (c :: a = c :: b) = decide (a = b) := by simp
      rw [e]
    · have ne : decide (c :: a = d :: b) = false := by simp [h]
      have nb : (c == d) = false := by simp [h]
      rw [ne, bl_cons c d a b, nb]
      by_cases hc : c = 0
      · subst hc
        have hd : d ≠ 0 := fun e => h e.symm
        rw [esc_0, esc_n hd]
        show Op.bytesLess (0 :: 255 :: (mid a ++ x)) (d :: (mid b ++ y)) = _
        rw [bl_cons, u0 hd]; simp
      · by_cases hd : d = 0
        · subst hd
          rw [esc_0, esc_n hc]
          show Op.bytesLess (c :: (mid a ++ x)) (0 :: 255 :: (mid b ++ y)) = _
          rw [bl_cons, n0, ne0 hc]; simp
        · rw [esc_n hc, esc_n hd]
          show Op.bytesLess (c :: (mid a ++ x)) (d :: (mid b ++ y)) = _
          rw [bl_cons, nb]; simp
/-- fixed numbers stand as they do -/
theorem bl_be : ∀ (k x y : Nat), x < 256 ^ k → y < 256 ^ k → Op.bytesLess (be k x) (be k y) = decide (x < y) := by
  intro k x y hx hy
  rw [Str.less_same (by rw [be_len, be_len])]
  have : ∀ k x, x < 256 ^ k → Str.num (be k x) = x := by
    intro k
    induction k with
    | zero => intro x hx; simp at hx; subst hx; rfl
    | succ k ih =>
      intro x hx
      show Str.num (UInt8.ofNat (x >>> (8 * k)) :: be k x) = x
      rw [Str.num_cons, be_len]
      have hp : 0 < 256 ^ k := Nat.pow_pos (by decide)
      have e : x >>> (8 * k) = x / 256 ^ k := by rw [Nat.shiftRight_eq_div_pow, Nat.pow_mul]
      have hd : x / 256 ^ k < 256 := by rw [Nat.div_lt_iff_lt_mul hp]; rw [Nat.pow_succ, Nat.mul_comm] at hx; exact hx
      have hm := ih (x % 256 ^ k) (Nat.mod_lt x hp)
      rw [show be k (x % 256 ^ k) = be k x from @be_inj.be_mod 0 0 0 k x] at hm
      rw [hm, e, toNat_ofNat hd]
      have p : 2 ^ (8 * k) = 256 ^ k := by rw [Nat.pow_mul]
      rw [p, Nat.mul_comm]
      have := Nat.div_add_mod x (256 ^ k)
      exact this
  rw [this k x hx, this k y hy]
theorem bl_len : ∀ (a c b d : List UInt8), a.length = c.length → Op.bytesLess (a ++ b) (c ++ d) = (Op.bytesLess a c || (decide (a = c) && Op.bytesLess b d))
  | [], [], b, d, _ => by simp [Op.bytesLess]
  | x :: a, y :: c, b, d, h => by
    rw [List.cons_append, List.cons_append, bl_cons, bl_cons, bl_len a c b d (by simpa using h)]
    by_cases e : x = y
    · subst e; simp
    · have nb : (x == y) = false := by simp [e]
      have ne : decide (x :: a = y :: c) = false := by simp [e]
      rw [nb, ne]; simp
theorem bl_irr (a : List UInt8) : Op.bytesLess a a = false := Str.bytesLess_irrefl a
/-- a cell's key -/
def keyC (k : List UInt8) (w l t : Int) : List UInt8 := 99 :: (mid k ++ stB w l t)
theorem lt_int {c x y : Int} (hx : 0 ≤ x) (hy : 0 ≤ y) (hcx : x ≤ c) (hcy : y ≤ c) : decide ((c - x).toNat < (c - y).toNat) = ltI y x := by
  rw [ltI_eq]; congr 1
  apply propext
  constructor
  · intro h; show y < x; omega
  · intro h; have h : y < x := h; omega
theorem be_eq {k x y : Nat} (hx : x < 256 ^ k) (hy : y < 256 ^ k) : decide (be k x = be k y) = decide (x = y) := by
  by_cases h : x = y
  · subst h; simp
  · have : be k x ≠ be k y := fun e => h (be_inj hx hy e)
    simp [h, this]
theorem eq_int {c x y : Int} (hx : 0 ≤ x) (hy : 0 ≤ y) (hcx : x ≤ c) (hcy : y ≤ c) : decide ((c - x).toNat = (c - y).toNat) = eqI y x := by
  rw [eqI_eq]; congr 1
  apply propext
  constructor
  · intro h; omega
  · intro h; omega
theorem lt_st {w l t w' l' t' : Int} (h1 : okS w l t = true) (h2 : okS w' l' t' = true) : Op.bytesLess (stB w l t) (stB w' l' t') = (ltI w' w || (eqI w' w && (ltI l' l || (eqI l' l && ltI t' t)))) := by
  obtain ⟨a1, a2, a3, a4, a5, a6⟩ := okS_iff h1
  obtain ⟨b1, b2, b3, b4, b5, b6⟩ := okS_iff h2
  unfold stB
  rw [bl_len _ _ _ _ (by rw [be_len, be_len]), bl_len _ _ _ _ (by rw [be_len, be_len])]
  have p8 : (256 : Nat) ^ 8 = 18446744073709551616 := by decide
  have p4 : (256 : Nat) ^ 4 = 4294967296 := by decide
  rw [bl_be 8 _ _ (by rw [p8]; omega) (by rw [p8]; omega), bl_be 4 _ _ (by rw [p4]; omega) (by rw [p4]; omega), bl_be 4 _ _ (by rw [p4]; omega) (by rw [p4]; omega),
    be_eq (by rw [p8]; omega) (by rw [p8]; omega), be_eq (by rw [p4]; omega) (by rw [p4]; omega),
    lt_int a1 b1 (by omega) (by omega), lt_int a3 b3 (by omega) (by omega), lt_int a5 b5 (by omega) (by omega), eq_int a1 b1 (by omega) (by omega), eq_int a3 b3 (by omega) (by omega)]
theorem lt_key {k k' : List UInt8} {w l t w' l' t' : Int} (h1 : okS w l t = true) (h2 : okS w' l' t' = true) : Str.lt (Str.of (keyC k w l t)) (Str.of (keyC k' w' l' t')) = (Str.lt (Str.of k) (Str.of k') || (Str.beq (Str.of k) (Str.of k') && (ltI w' w || (eqI w' w && (ltI l' l || (eqI l' l && ltI t' t)))))) := by
  rw [Str.lt_of, Str.lt_of, beq_lit]
  unfold keyC
  rw [bl_same, bl_mid, lt_st h1 h2]
theorem eq_key {k k' : List UInt8} {w l t w' l' t' : Int} (h1 : okS w l t = true) (h2 : okS w' l' t' = true) : Str.beq (Str.of (keyC k w l t)) (Str.of (keyC k' w' l' t')) = (Str.beq (Str.of k) (Str.of k') && (eqI w w' && (eqI l l' && eqI t t'))) := by
  rw [beq_lit, beq_lit]
  by_cases h : keyC k w l t = keyC k' w' l' t'
  · rw [decide_eq_true h]
    unfold keyC at h
    injection h with _ h
    obtain ⟨hk, h3⟩ := mid_pre h
    subst hk
    obtain ⟨rfl, rfl, rfl⟩ := stB_inj h1 h2 h3
    simp [eqI_refl]
  · rw [decide_eq_false h]
    symm
    rw [Bool.and_eq_false_iff]
    by_cases hk : k = k'
    · refine .inr ?_
      subst hk
      cases e : (eqI w w' && (eqI l l' && eqI t t'))
      · rfl
      · simp only [Bool.and_eq_true, eqI_true] at e
        obtain ⟨rfl, rfl, rfl⟩ := e
        exact absurd rfl h
    · exact .inl (decide_eq_false hk)
end Go.Proofs.Ytlbigopkplckaaa
