/- What is laid down of keys, stamps and numbers can be read in one way alone. No condition. -/
import Derived.Test.YtlbigopkplckaaaSpR
import Derived.Test.YtlbigopkplckaaaAmS2
import Derived.Test.YtlbigopkplckaaaAmL7
namespace Go.Proofs.Ytlbigopkplckaaa
open Go Go.Am
set_option linter.all false
set_option maxRecDepth 100000
/-! ## keys -/
theorem mid_cons (c : UInt8) (l : List UInt8) : mid (c :: l) = esc c ++ mid l := by simp [mid, midP]
theorem mid_nil : mid [] = [0, 1] := rfl
theorem esc_0 : esc 0 = [0, 255] := rfl
theorem esc_n {c : UInt8} (h : c ≠ 0) : esc c = [c] := if_neg h
theorem midI1 {x : UInt8} {r k tail : List UInt8} (hx : x ≠ 0) (h : x :: r = mid k ++ tail) : ∃ k', k = x :: k' ∧ r = mid k' ++ tail := by
  cases k with
  | nil => rw [mid_nil] at h; injection h with h1 _; exact absurd h1 hx
  | cons c k =>
    rw [mid_cons] at h
    by_cases hc : c = 0
    · subst hc; rw [esc_0] at h; injection h with h1 _; exact absurd h1 hx
    · rw [esc_n hc] at h; injection h with h1 h2; subst h1; exact ⟨k, rfl, h2⟩
theorem midI2 {r k tail : List UInt8} (h : 0 :: 255 :: r = mid k ++ tail) : ∃ k', k = 0 :: k' ∧ r = mid k' ++ tail := by
  cases k with
  | nil => rw [mid_nil] at h; injection h with _ h; injection h with h _; exact absurd h (by decide)
  | cons c k =>
    rw [mid_cons] at h
    by_cases hc : c = 0
    · subst hc; rw [esc_0] at h; injection h with _ h; injection h with _ h; exact ⟨k, rfl, h⟩
    · rw [esc_n hc] at h; injection h with h1 h2; exact absurd h1.symm hc
theorem midI3 {r k tail : List UInt8} (h : 0 :: 1 :: r = mid k ++ tail) : k = [] ∧ r = tail := by
  cases k with
  | nil => rw [mid_nil] at h; injection h with _ h; injection h with _ h; exact ⟨rfl, h⟩
  | cons c k =>
    rw [mid_cons] at h
    by_cases hc : c = 0
    · subst hc; rw [esc_0] at h; injection h with _ h; injection h with h _; exact absurd h (by decide)
    · rw [esc_n hc] at h; injection h with h1 h2; exact absurd h1.symm hc
theorem midI4 {y : UInt8} {r k tail : List UInt8} (h1 : y ≠ 255) (h2 : y ≠ 1) (h : 0 :: y :: r = mid k ++ tail) : False := by
  cases k with
  | nil => rw [mid_nil] at h; injection h with _ h; injection h with h _; exact h2 h
  | cons c k =>
    rw [mid_cons] at h
    by_cases hc : c = 0
    · subst hc; rw [esc_0] at h; injection h with _ h; injection h with h _; exact h1 h
    · rw [esc_n hc] at h; injection h with h1 h2; exact absurd h1.symm hc
theorem mid_two (k : List UInt8) : 2 ≤ (mid k).length := by simp [mid]
theorem midI5 {k tail : List UInt8} (h : [] = mid k ++ tail) : False := by
  have := congrArg List.length h
  have h2 := mid_two k
  simp at this; omega
theorem midI6 {x : UInt8} {k tail : List UInt8} (h : [x] = mid k ++ tail) : False := by
  have := congrArg List.length h
  have h2 := mid_two k
  simp at this; omega
theorem mid_pre : ∀ {a b x y : List UInt8}, mid a ++ x = mid b ++ y → a = b ∧ x = y
  | [], b, x, y, h => by
    have h : 0 :: 1 :: x = mid b ++ y := h
    obtain ⟨rfl, rfl⟩ := midI3 h; exact ⟨rfl, rfl⟩
  | c :: a, b, x, y, h => by
    rw [mid_cons, List.append_assoc] at h
    by_cases hc : c = 0
    · subst hc; rw [esc_0] at h
      have h : 0 :: 255 :: (mid a ++ x) = mid b ++ y := h
      obtain ⟨b', rfl, h'⟩ := midI2 h
      obtain ⟨rfl, rfl⟩ := mid_pre h'; exact ⟨rfl, rfl⟩
    · rw [esc_n hc] at h
      have h : c :: (mid a ++ x) = mid b ++ y := h
      obtain ⟨b', rfl, h'⟩ := midI1 hc h
      obtain ⟨rfl, rfl⟩ := mid_pre h'; exact ⟨rfl, rfl⟩
/-! ## numbers -/
theorem ofNat_inj {a b : Nat} (ha : a < 256) (hb : b < 256) (h : UInt8.ofNat a = UInt8.ofNat b) : a = b := by
  have := congrArg UInt8.toNat h
  simp at this; omega
theorem toNat_ofNat {a : Nat} (ha : a < 256) : (UInt8.ofNat a).toNat = a := by simp; omega
theorem uv_ne (x : Nat) : uv x ≠ [] := by
  by_cases h : x < 128
  · rw [uv_small h]; simp
  · rw [uv_big (by omega)]; simp
theorem uv_pre : ∀ {x y : Nat} {s t : List UInt8}, uv x ++ s = uv y ++ t → x = y ∧ s = t := by
  intro x
  induction x using Nat.strongRecOn with
  | ind x ih =>
    intro y s t h
    by_cases hx : x < 128 <;> by_cases hy : y < 128
    · rw [uv_small hx, uv_small hy] at h
      injection h with h1 h2
      exact ⟨ofNat_inj (by omega) (by omega) h1, h2⟩
    · rw [uv_small hx, uv_big (x := y) (by omega)] at h
      injection h with h1 h2
      have := ofNat_inj (by omega) (by omega) h1; omega
    · rw [uv_big (x := x) (by omega), uv_small hy] at h
      injection h with h1 h2
      have := ofNat_inj (by omega) (by omega) h1; omega
    · rw [uv_big (x := x) (by omega), uv_big (x := y) (by omega)] at h
      injection h with h1 h2
      have h1 := ofNat_inj (by omega) (by omega) h1
      obtain ⟨h3, h4⟩ := ih (x / 128) (by omega) h2
      exact ⟨by omega, h4⟩
/-! ## fixed numbers -/
theorem be_inj : ∀ {k x y : Nat}, x < 256 ^ k → y < 256 ^ k → be k x = be k y → x = y
  | 0, x, y, hx, hy, _ => by simp at hx hy; omega
  | k + 1, x, y, hx, hy, h => by
    have h : UInt8.ofNat (x >>> (8 * k)) :: be k x = UInt8.ofNat (y >>> (8 * k)) :: be k y := h
    injection h with h1 h2
    have e : ∀ z : Nat, z >>> (8 * k) = z / 256 ^ k := fun z => by rw [Nat.shiftRight_eq_div_pow, Nat.pow_mul]
    rw [e, e] at h1
    have hp : 0 < 256 ^ k := Nat.pow_pos (by decide)
    have hx1 : x / 256 ^ k < 256 := by rw [Nat.div_lt_iff_lt_mul hp]; rw [Nat.pow_succ, Nat.mul_comm] at hx; exact hx
    have hy1 : y / 256 ^ k < 256 := by rw [Nat.div_lt_iff_lt_mul hp]; rw [Nat.pow_succ, Nat.mul_comm] at hy; exact hy
    have h1 := ofNat_inj hx1 hy1 h1
    have bm : ∀ z : Nat, be k (z % 256 ^ k) = be k z := be_mod k
    have := be_inj (Nat.mod_lt x hp) (Nat.mod_lt y hp) (by rw [bm, bm]; exact h2)
    have a1 := Nat.div_add_mod x (256 ^ k)
    have a2 := Nat.div_add_mod y (256 ^ k)
    rw [h1, this] at a1
    omega
where
  be_mod : ∀ (k z : Nat), be k (z % 256 ^ k) = be k z := by
    intro k z
    have gen : ∀ j, j ≤ k → be j (z % 256 ^ k) = be j z := by
      intro j
      induction j with
      | zero => intro _; rfl
      | succ j ih =>
        intro hj
        show UInt8.ofNat ((z % 256 ^ k) >>> (8 * j)) :: be j (z % 256 ^ k) = UInt8.ofNat (z >>> (8 * j)) :: be j z
        rw [ih (by omega)]
        congr 1
        apply UInt8.toNat_inj.1
        have e : ∀ z : Nat, z >>> (8 * j) = z / 256 ^ j := fun z => by rw [Nat.shiftRight_eq_div_pow, Nat.pow_mul]
        rw [e, e]
        simp only [UInt8.toNat_ofNat']
        have hk : 256 ^ k = 256 ^ j * 256 ^ (k - j) := by rw [← Nat.pow_add]; congr 1; omega
        rw [hk, Nat.mod_mul_right_div_self]
        have h256 : 256 ^ (k - j) = 256 * 256 ^ (k - j - 1) := by rw [Nat.mul_comm, ← Nat.pow_succ]; congr 1; omega
        show z / 256 ^ j % 256 ^ (k - j) % 256 = z / 256 ^ j % 256
        rw [h256, Nat.mod_mul_right_mod]
    exact gen k (Nat.le_refl _)
theorem stB_inj {w l t w' l' t' : Int} (h1 : okS w l t = true) (h2 : okS w' l' t' = true) (h : stB w l t = stB w' l' t') : w = w' ∧ l = l' ∧ t = t' := by
  obtain ⟨a1, a2, a3, a4, a5, a6⟩ := okS_iff h1
  obtain ⟨b1, b2, b3, b4, b5, b6⟩ := okS_iff h2
  unfold stB at h
  obtain ⟨h3, h4⟩ := List.append_inj h (by simp [be_len])
  obtain ⟨h5, h6⟩ := List.append_inj h4 (by simp [be_len])
  have e1 := be_inj (by show (9223372036854775807 - w).toNat < 18446744073709551616; omega) (by show (9223372036854775807 - w').toNat < 18446744073709551616; omega) h3
  have e2 := be_inj (by show (2147483647 - l).toNat < 4294967296; omega) (by show (2147483647 - l').toNat < 4294967296; omega) h5
  have e3 := be_inj (by show (2147483647 - t).toNat < 4294967296; omega) (by show (2147483647 - t').toNat < 4294967296; omega) h6
  omega
theorem flagB_inj {d d' : Bool} {v v' : List UInt8} (h1 : d = true → v = []) (h2 : d' = true → v' = []) (h : flagB d v = flagB d' v') : d = d' ∧ v = v' := by
  rw [flag_end h1, flag_end h2] at h
  injection h with h3 h4
  refine ⟨?_, h4⟩
  cases d <;> cases d' <;> first | rfl | (exact absurd h3 (by decide))
end Go.Proofs.Ytlbigopkplckaaa
