/- The readers of the layer of versions: stamps, marks and values. No condition. -/
import Derived.Test.YtlbigopkplckaaaRdB
namespace Go.Proofs.Ytlbigopkplckaaa
open Go Go.Am
set_option linter.all false
set_option maxRecDepth 100000
theorem num_take {l : List UInt8} {i : Nat} (h : i < l.length) : Str.num (l.take (i + 1)) = Str.num (l.take i) * 256 + l[i].toNat := by
  rw [take_snoc h, Str.num_append]
  simp [Str.num]
theorem num_be : ∀ k x, Str.num (be k x) = x % 256 ^ k
  | 0, x => by simp [be, Str.num, Nat.mod_one]
  | k + 1, x => by
    show Str.num (UInt8.ofNat (x >>> (8 * k)) :: be k x) = _
    rw [Str.num_cons, num_be k x, be_len, Nat.mod_pow_succ]
    have e : x >>> (8 * k) = x / 256 ^ k := by rw [Nat.shiftRight_eq_div_pow, Nat.pow_mul]
    have e2 : (2 : Nat) ^ (8 * k) = 256 ^ k := by rw [Nat.pow_mul]
    rw [e, e2]
    have e3 : (UInt8.ofNat (x / 256 ^ k)).toNat = x / 256 ^ k % 256 := by simp
    rw [e3, Nat.mul_comm (x / 256 ^ k % 256), Nat.add_comm]
theorem num_small {l : List UInt8} {n : Nat} (h : l.length ≤ n) : Str.num l < 2 ^ (8 * n) := Nat.lt_of_lt_of_le (Str.num_lt l) (Nat.pow_le_pow_right (by decide) (by omega))
theorem toU_nat {m : Nat} (h : m < 18446744073709551616) : toU .u64 (Int.ofNat m) = m := Nat.mod_eq_of_lt (by show m < 18446744073709551616; exact h)
theorem shl8 {x : Nat} (h : x < 2 ^ 56) : shlF .u64 (Int.ofNat x) 8 = Int.ofNat (x * 256) := by
  show wrapF .u64 (Int.ofNat (x * 256)) = _
  exact wrapF_nat (kk := .u64) (by show x * 256 < 18446744073709551616; omega)
theorem or_byte {x b : Nat} (h : x < 2 ^ 56) (hb : b < 256) : lorF .u64 (Int.ofNat (x * 256)) (Int.ofNat b) = Int.ofNat (x * 256 + b) := by
  unfold lorF
  rw [toU_nat (by omega), toU_nat (by omega)]
  have e : Nat.lor (x * 256) b = x * 256 + b := by
    have := Nat.shiftLeft_add_eq_or_of_lt (i := 8) (b := b) hb x
    rw [Nat.shiftLeft_eq] at this
    exact this.symm
  rw [e]
  exact wrapF_nat (kk := .u64) (by show x * 256 + b < 18446744073709551616; omega)
theorem bI_u64 (c : UInt8) : wrapF .u64 (bI c) = Int.ofNat c.toNat := wrapF_nat (kk := .u64) (by have := c.toNat_lt; show c.toNat < 18446744073709551616; omega)
section
variable {KI : Int → H → Prop}
theorem t80 {s : List UInt8} {h : H} (hl : s.length ≤ 8) (hk : KI (Int.ofNat (Str.num s)) h) : s80G J0 (Str.of s) h KI := by
  unfold s80G
  refine lp_rule (fun n v d h' => ∃ i, v = (.str (Str.of s), .int .u64 (Int.ofNat (Str.num (s.take i))), .int .i64 (Int.ofNat s.length), .int .i64 (Int.ofNat i), ()) ∧ d = [] ∧ h' = h ∧ i ≤ s.length ∧ n = s.length - i) ?_ (n := s.length) (by unfold fuel; omega) ⟨0, rfl, rfl, rfl, Nat.zero_le _, rfl⟩
  rintro n self v d h' ⟨i, rfl, rfl, rfl, hi, rfl⟩ hs
  simp only [asI_int, fI_eq, fB_eq]
  by_cases hc : i < s.length
  · rw [lt_ltI hc, br_t, ixs_of hc, bI_u64]
    have h1 : Str.num (s.take i) < 2 ^ 56 := num_small (n := 7) (by rw [List.length_take]; omega)
    rw [shl8 h1, or_byte h1 s[i].toNat_lt, ← num_take hc, add_one i (by omega)]
    exact hs _ _ _ _ (by omega) ⟨i + 1, rfl, rfl, rfl, hc, rfl⟩
  · rw [ge_ltI (by omega), br_f]
    rw [List.take_of_length_le (by omega)]
    exact hk
noncomputable def pUnf : Str → H → (Int → H → Prop) → Prop := fun s h k => ∃ l : List UInt8, s = Str.of l ∧ l.length ≤ 8 ∧ k (Int.ofNat (Str.num l)) h
/-- what is read of a stamp's text -/
def UnsP (s : List UInt8) (w l t e : Int) : Prop := ∀ w0 l0 t0, okS w0 l0 t0 = true → s = stB w0 l0 t0 → w = w0 ∧ l = l0 ∧ t = t0 ∧ e = Int.ofNat 0
noncomputable def pUns : Str → H → (AV → Int → H → Prop) → Prop := fun s h k => ∃ l : List UInt8, s = Str.of l ∧ ∀ w lo t e, UnsP l w lo t e → k (stAV w lo t) e h
theorem stB_w {w l t : Int} (ho : okS w l t = true) : Str.num ((stB w l t).take 8) = (9223372036854775807 - w).toNat := by
  obtain ⟨a1, a2, a3, a4, a5, a6⟩ := okS_iff ho
  have e : (stB w l t).take 8 = be 8 (9223372036854775807 - w).toNat := by
    unfold stB; rw [List.take_append_of_le_length (by simp [be_len]), List.take_of_length_le (by simp [be_len])]
  rw [e, num_be, Nat.mod_eq_of_lt (by show (9223372036854775807 - w).toNat < 18446744073709551616; omega)]
theorem stB_l {w l t : Int} (ho : okS w l t = true) : Str.num (((stB w l t).take 12).drop 8) = (2147483647 - l).toNat := by
  obtain ⟨a1, a2, a3, a4, a5, a6⟩ := okS_iff ho
  have e : ((stB w l t).take 12).drop 8 = be 4 (2147483647 - l).toNat := by
    unfold stB
    rw [List.drop_take, List.drop_append_of_le_length (by simp [be_len]), List.drop_of_length_le (by simp [be_len]), List.nil_append, List.take_append_of_le_length (by simp [be_len]), List.take_of_length_le (by simp [be_len])]
  rw [e, num_be, Nat.mod_eq_of_lt (by show (2147483647 - l).toNat < 4294967296; omega)]
theorem stB_t {w l t : Int} (ho : okS w l t = true) : Str.num ((stB w l t).drop 12) = (2147483647 - t).toNat := by
  obtain ⟨a1, a2, a3, a4, a5, a6⟩ := okS_iff ho
  have e : (stB w l t).drop 12 = be 4 (2147483647 - t).toNat := by
    unfold stB
    rw [← List.append_assoc, List.drop_append_of_le_length (by simp [be_len]), List.drop_of_length_le (by simp [be_len]), List.nil_append]
  rw [e, num_be, Nat.mod_eq_of_lt (by show (2147483647 - t).toNat < 4294967296; omega)]
theorem back_i64 {w : Int} (h0 : 0 ≤ w) (h1 : w ≤ 1099511627776) : wrapF .i64 (Int.sub (Int.ofNat 9223372036854775807) (wrapF .i64 (Int.ofNat (9223372036854775807 - w).toNat))) = w := by
  have e1 : (Int.ofNat (9223372036854775807 - w).toNat) = 9223372036854775807 - w := by show ((9223372036854775807 - w).toNat : Int) = _; omega
  rw [e1, wrap_i64_in (n := 9223372036854775807 - w) (by omega) (by omega)]
  have e2 : Int.sub (Int.ofNat 9223372036854775807) (9223372036854775807 - w) = w := by show (9223372036854775807 : Int) - (9223372036854775807 - w) = w; omega
  rw [e2, wrap_i64_in (by omega) (by omega)]
theorem back_i32 {w : Int} (h0 : 0 ≤ w) (h1 : w ≤ 1048576) : wrapF .i32 (Int.sub (Int.ofNat 2147483647) (wrapF .i32 (Int.ofNat (2147483647 - w).toNat))) = w := by
  have e1 : (Int.ofNat (2147483647 - w).toNat) = 2147483647 - w := by show ((2147483647 - w).toNat : Int) = _; omega
  rw [e1, wrap_i32_in (n := 2147483647 - w) (by omega) (by omega)]
  have e2 : Int.sub (Int.ofNat 2147483647) (2147483647 - w) = w := by show (2147483647 : Int) - (2147483647 - w) = w; omega
  rw [e2, wrap_i32_in (by omega) (by omega)]
variable {KS : AV → Int → Prop}
theorem t67 {s : List UInt8} (hk : ∀ w l t e, UnsP s w l t e → KS (stAV w l t) e) : s67G J0 pOkS pUnf (Str.of s) H0 fun r e _ => KS r e := by
  unfold s67G
  simp only [fI_eq]
  rw [pushK_is, fB_eq]
  by_cases h16 : s.length = 16
  · have c : eqI (Int.ofNat (Str.of s).len) (Int.ofNat 16) = true := eqI_true.2 (by show (s.length : Int) = 16; omega)
    rw [c, Bool.not_true, br_f, subK_lo (by omega), subK_mid (by omega) (by omega), subK_hi (by omega)]
    by_cases hE : ∃ w l t, okS w l t = true ∧ s = stB w l t
    · obtain ⟨w, l, t, ho, rfl⟩ := hE
      obtain ⟨a1, a2, a3, a4, a5, a6⟩ := okS_iff ho
      have f1 : ltI (Int.ofNat 9223372036854775807) (Int.ofNat (9223372036854775807 - w).toNat) = false := ge_ltI (by omega)
      have f2 : ltI (Int.ofNat 2147483647) (Int.ofNat (2147483647 - l).toNat) = false := ge_ltI (by omega)
      have f3 : ltI (Int.ofNat 2147483647) (Int.ofNat (2147483647 - t).toNat) = false := ge_ltI (by omega)
      refine ⟨_, rfl, by rw [List.length_take]; omega, ⟨_, rfl, by rw [List.length_drop, List.length_take]; omega, ⟨_, rfl, by rw [List.length_drop]; omega, ?_⟩⟩⟩
      dsimp only
      rw [stB_w ho, stB_l ho, stB_t ho, f1, back_i64 a1 a2, back_i32 a3 a4, back_i32 a5 a6]
      conv => whnf
      refine rec_false f2 ?_
      conv => whnf
      refine rec_false f3 ?_
      conv => whnf
      refine ⟨w, l, t, rfl, ?_⟩
      conv => whnf
      refine rec_false (by rw [ho]; rfl) ?_
      conv => whnf
      refine hk w l t _ fun w0 l0 t0 h1 h2 => ?_
      obtain ⟨e1, e2, e3⟩ := stB_inj ho h1 h2
      exact ⟨e1, e2, e3, rfl⟩
    · have any : ∀ w l t e, KS (stAV w l t) e := fun w l t e => hk w l t e fun w0 l0 t0 h1 h2 => (hE ⟨w0, l0, t0, h1, h2⟩).elim
      refine ⟨_, rfl, by rw [List.length_take]; omega, ⟨_, rfl, by rw [List.length_drop, List.length_take]; omega, ⟨_, rfl, by rw [List.length_drop]; omega, ?_⟩⟩⟩
      repeat' ((conv => whnf); first | exact any _ _ _ _ | refine ⟨_, _, _, rfl, ?_⟩ | refine rec_intro (fun _ => ?_) (fun _ => ?_))
  · have c : eqI (Int.ofNat (Str.of s).len) (Int.ofNat 16) = false := eqI_false.2 (by show ¬ (s.length : Int) = 16; omega)
    rw [c, Bool.not_false, br_t]
    conv => whnf
    refine hk 0 0 0 _ fun w0 l0 t0 h1 h2 => ?_
    exfalso; apply h16; rw [h2, stB_len]
end
end Go.Proofs.Ytlbigopkplckaaa
