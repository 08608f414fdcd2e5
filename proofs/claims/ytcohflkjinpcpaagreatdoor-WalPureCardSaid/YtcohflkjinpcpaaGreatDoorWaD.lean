/- Numbers read from bytes, in the program's words. No condition. -/
import Derived.Test.YtcohflkjinpcpaaGreatDoorWaB
namespace Go.Proofs.YtcohflkjinpcpaaGreatDoor
open Go Go.Am
set_option linter.all false
set_option maxRecDepth 100000
/-- what a number read from bytes is: the number that they begin with, or none that a whole number may be -/
def ReQ (b : List UInt8) (x m e : Int) : Prop := (∃ (v : Nat) (tail : List UInt8), v < 18446744073709551616 ∧ b = uv v ++ tail ∧ x = Int.ofNat v ∧ m = Int.ofNat (uv v).length ∧ e = Int.ofNat 0) ∨
  ((∀ (v : Nat) (tail : List UInt8), v < 9223372036854775808 → b = uv v ++ tail → False) ∧ x = Int.ofNat 0 ∧ m = Int.ofNat 0 ∧ e = Int.ofNat 5)
/-- and one that is at most mo -/
def SmQ (b : List UInt8) (mo : Nat) (x m e : Int) : Prop := (∃ (v : Nat) (tail : List UInt8), v ≤ mo ∧ b = uv v ++ tail ∧ x = Int.ofNat v ∧ m = Int.ofNat (uv v).length ∧ e = Int.ofNat 0) ∨
  ((∀ (v : Nat) (tail : List UInt8), v ≤ mo → b = uv v ++ tail → False) ∧ x = Int.ofNat 0 ∧ m = Int.ofNat 0 ∧ e = Int.ofNat 5)
section
variable {KR : Int → Int → Int → H → Prop}
theorem t72 {h : H} {a : AV} {b : List UInt8} (r : SlB h a b) (hl : b.length ≤ 140737488351232) (hk : ∀ x m e, ReQ b x m e → KR x m e h) : s72G J0 a h KR := by
  unfold s72G
  refine jd_intro (fun _ d' h' => d' = [] ∧ h' = h ∧ ∀ v tail, v < 9223372036854775808 → b = uv v ++ tail → False) (fun j hj => ?_) ?_
  rotate_left
  · rintro _ d' h' ⟨rfl, rfl, hn⟩
    exact hk _ _ _ (.inr ⟨hn, rfl, rfl, rfl⟩)
  refine lp_rule (fun c w d h' => ∃ i xv, w = (a, .int .u64 (Int.ofNat xv), .int .i64 (Int.ofNat i), ()) ∧ d = [] ∧ h' = h ∧ i ≤ 9 ∧ i ≤ b.length ∧ c = 10 - i ∧ xv < 128 ^ i ∧ (∀ y, 1 ≤ y → uv (xv + 128 ^ i * y) = b.take i ++ uv y) ∧
      ∀ v tail, v < 9223372036854775808 → b = uv v ++ tail → xv = v % 128 ^ i ∧ (i = 0 ∨ 128 ^ i ≤ v) ∧ b.drop i = uv (v / 128 ^ i) ++ tail ∧ (uv v).length = i + (uv (v / 128 ^ i)).length) ?_ (n := 10) (by unfold fuel; omega)
    ⟨0, 0, rfl, rfl, rfl, Nat.zero_le _, Nat.zero_le _, rfl, by decide, fun y _ => by simp, fun v tail h1 h2 => ⟨by simp [Nat.mod_one], .inl rfl, by simpa using h2, by simp⟩⟩
  rintro c self w d h' ⟨i, xv, rfl, rfl, rfl, hi10, hib, rfl, hx, hup, hfit⟩ hs
  dsimp only
  rw [r.len, asI_int, fB_eq]
  by_cases hc : i < b.length
  rotate_left
  · rw [ge_ltI (by omega)]
    simp only [↓jn_is, ↓br_t, ↓br_f, ↓pickB_t, ↓pickB_f, ↓asB_bool, ↓asI_int]
    refine hj _ _ _ ⟨rfl, rfl, fun v tail h1 h2 => ?_⟩
    obtain ⟨_, _, q, _⟩ := hfit v tail h1 h2
    rw [List.drop_of_length_le (by omega)] at q
    have := congrArg List.length q
    have hne := uv_ne (v / 128 ^ i)
    cases hu : uv (v / 128 ^ i) with
    | nil => exact hne hu
    | cons _ _ => rw [hu] at this; simp at this
  rw [lt_ltI hc]
  simp only [↓jn_is, ↓br_t, ↓br_f, ↓pickB_t, ↓pickB_f, ↓asB_bool, ↓asI_int]
  rw [fB_eq]
  have h10 : i < 10 := by omega
  rw [lt_ltI h10]
  obtain ⟨p, p1, p2⟩ := r.at hc
  have hd := drop_cons hc
  simp only [↓jn_is, ↓br_t, ↓br_f, ↓pickB_t, ↓pickB_f, ↓asB_bool, ↓asI_int, ↓p1, ↓p2 h' _ (fun _ _ => rfl), ↓fB_eq]
  have brk : ((eqI (Int.ofNat i) (Int.ofNat 9) && ltI (Int.ofNat 1) (bI b[i])) || (ltI (Int.ofNat 0) (Int.ofNat i) && eqI (bI b[i]) (Int.ofNat 0))) = true → j () [] h' := fun hcond => by
    refine hj _ _ _ ⟨rfl, rfl, fun v tail h1 h2 => ?_⟩
    obtain ⟨_, q1, q2, _⟩ := hfit v tail h1 h2
    rw [Bool.or_eq_true, Bool.and_eq_true, Bool.and_eq_true] at hcond
    rcases hcond with ⟨c1, _⟩ | ⟨c1, c2⟩
    · have h9 : i = 9 := by have := eqI_true.1 c1; have h2 : (i : Int) = 9 := this; omega
      have := pow128 i (by omega)
      omega
    · have hi0 : 0 < i := lt_of_ltI c1
      rw [eqI_b0] at c2
      have c2 := of_decide_eq_true c2
      rw [hd, c2] at q2
      have hv1 : 1 ≤ v / 128 ^ i := by
        rcases q1 with q1 | q1
        · omega
        · exact (Nat.one_le_div_iff (Nat.pow_pos (by decide))).2 q1
      obtain ⟨u1, u2⟩ := uv_head q2
      by_cases hv : v / 128 ^ i < 128
      · have := (u1 hv).1; simp at this; omega
      · have := (u2 (by omega)).1; simp at this
  have e7 : wrapF .i64 (Int.mul (Int.ofNat 7) (Int.ofNat i)) = Int.ofNat (7 * i) := wrapF_nat (kk := .i64) (m := 7 * i) (by show 7 * i < 9223372036854775808; omega)
  have hcl := (b[i]).toNat_lt
  have eland : wrapF .u64 (landnF .u8 (bI b[i]) (Int.ofNat 128)) = Int.ofNat ((b[i]).toNat % 128) := by
    have := landn128 (b[i]).toNat hcl
    rw [show bI b[i] = Int.ofNat (b[i]).toNat from rfl, this]
    exact wrapF_nat (kk := .u64) (by show (b[i]).toNat % 128 < 18446744073709551616; omega)
  have cont : ((eqI (Int.ofNat i) (Int.ofNat 9) && ltI (Int.ofNat 1) (bI b[i])) || (ltI (Int.ofNat 0) (Int.ofNat i) && eqI (bI b[i]) (Int.ofNat 0))) = false →
      fI (landnF .u8 (bI b[i]) (Int.ofNat 128)) fun x59 => fI (wrapF .u64 x59) fun x60 => fI (wrapF .i64 (Int.mul (Int.ofNat 7) (Int.ofNat i))) fun x62 => asNat (AV.int .i64 x62) fun n63 => fI (shlF .u64 x60 n63) fun x64 => fI (lorF .u64 (Int.ofNat xv) x64) fun x66 =>
        fI (wrapF .i64 (Int.add (Int.ofNat i) (Int.ofNat 1))) fun x68 => br (ltI (bI b[i]) (Int.ofNat 128)) (leaveK (gam J0 []) [] h' fun h70 => KR x66 x68 (Int.ofNat 0) h70) (self (a, (AV.int .u64 x66), (AV.int .i64 x68), ()) [] h') := fun hcond => by
    simp only [fI_eq]
    rw [eland, e7, asNat_int, add_one i (by omega)]
    have hc9 : i = 9 → (b[i]).toNat ≤ 1 := fun h => by
      subst h
      rw [Bool.or_eq_false_iff] at hcond
      have := hcond.1
      rw [show eqI (Int.ofNat 9) (Int.ofNat 9) = true from rfl, Bool.true_and] at this
      exact ge_of_ltI this
    have hc0 : 0 < i → (b[i]).toNat ≠ 0 := fun h0 hz => by
      rw [Bool.or_eq_false_iff] at hcond
      have := hcond.2
      rw [lt_ltI h0, Bool.true_and, show bI b[i] = Int.ofNat (b[i]).toNat from rfl, hz] at this
      exact absurd this (by decide)
    have hpow : (128 : Nat) ^ 9 = 9223372036854775808 := by decide
    have hpi : 128 ^ i ≤ 128 ^ 9 := Nat.pow_le_pow_right (by decide) hi10
    have hsm : (b[i]).toNat % 128 * 128 ^ i + xv < 18446744073709551616 := by
      rcases Nat.lt_or_ge i 9 with h9 | h9
      · have h8 : 128 ^ (i + 1) ≤ 128 ^ 9 := Nat.pow_le_pow_right (by decide) h9
        rw [Nat.pow_succ] at h8
        have : (b[i]).toNat % 128 * 128 ^ i ≤ 127 * 128 ^ i := Nat.mul_le_mul_right _ (by omega)
        omega
      · obtain rfl : i = 9 := by omega
        have := hc9 rfl
        have : (b[9]).toNat % 128 * 128 ^ 9 ≤ 1 * 128 ^ 9 := Nat.mul_le_mul_right _ (by omega)
        omega
    rw [or_pow hi10 hx hsm]
    have hfit2 : ∀ v tail, v < 9223372036854775808 → b = uv v ++ tail → (v / 128 ^ i < 128 → (b[i]).toNat = v / 128 ^ i ∧ b.drop (i + 1) = tail) ∧ (128 ≤ v / 128 ^ i → (b[i]).toNat = v / 128 ^ i % 128 + 128 ∧ b.drop (i + 1) = uv (v / 128 ^ i / 128) ++ tail) ∧ (uv v).length = i + (uv (v / 128 ^ i)).length ∧ xv = v % 128 ^ i := fun v tail h1 h2 => by
      obtain ⟨q0, q1, q2, q3⟩ := hfit v tail h1 h2
      rw [hd] at q2
      obtain ⟨u1, u2⟩ := uv_head q2
      exact ⟨u1, u2, q3, q0⟩
    refine br_intro (fun h128 => ?_) (fun h128 => ?_)
    · have h128 : (b[i]).toNat < 128 := lt_of_ltI h128
      rw [Nat.mod_eq_of_lt h128] at hsm ⊢
      refine hk _ _ _ (.inl ⟨(b[i]).toNat * 128 ^ i + xv, b.drop (i + 1), hsm, ?_, rfl, ?_, rfl⟩)
      · rcases Nat.eq_zero_or_pos i with h0 | h0
        · subst h0
          have hx0 : xv = 0 := by simpa using hx
          subst hx0
          have e : (b[0]).toNat * 128 ^ 0 + 0 = (b[0]).toNat := by simp
          rw [e, uv_small h128]
          have := hd
          rw [List.drop_zero] at this
          refine this.trans ?_; simp
        · have hne := hc0 h0
          have e : (b[i]).toNat * 128 ^ i + xv = xv + 128 ^ i * (b[i]).toNat := by rw [Nat.mul_comm, Nat.add_comm]
          rw [e, hup _ (by omega), uv_small h128, List.append_assoc]
          have e2 : [UInt8.ofNat (b[i]).toNat] ++ b.drop (i + 1) = b.drop i := by rw [hd]; simp
          rw [e2, List.take_append_drop]
      · rcases Nat.eq_zero_or_pos i with h0 | h0
        · subst h0
          have hx0 : xv = 0 := by simpa using hx
          subst hx0
          have e : (b[0]).toNat * 128 ^ 0 + 0 = (b[0]).toNat := by simp
          rw [e, uv_len1 h128]
        · have hne := hc0 h0
          have e : (b[i]).toNat * 128 ^ i + xv = xv + 128 ^ i * (b[i]).toNat := by rw [Nat.mul_comm, Nat.add_comm]
          rw [e, hup _ (by omega), List.length_append, List.length_take, uv_len1 h128, Nat.min_eq_left hib]
    · have h128 : 128 ≤ (b[i]).toNat := ge_of_ltI h128
      have h9 : i < 9 := by
        rcases Nat.lt_or_ge i 9 with h | h
        · exact h
        · have := hc9 (by omega); omega
      have hps : 128 ^ (i + 1) = 128 ^ i * 128 := Nat.pow_succ ..
      refine hs (10 - (i + 1)) _ _ _ (by omega) ⟨i + 1, (b[i]).toNat % 128 * 128 ^ i + xv, rfl, rfl, rfl, by omega, hc, rfl, ?_, fun y hy => ?_, fun v tail h1 h2 => ?_⟩
      · have : (b[i]).toNat % 128 * 128 ^ i ≤ 127 * 128 ^ i := Nat.mul_le_mul_right _ (by omega)
        rw [hps]; omega
      · have e : (b[i]).toNat % 128 * 128 ^ i + xv + 128 ^ (i + 1) * y = xv + 128 ^ i * ((b[i]).toNat % 128 + 128 * y) := by
          rw [hps, Nat.mul_add, Nat.mul_comm ((b[i]).toNat % 128), Nat.mul_assoc]; omega
        have hb1 : UInt8.ofNat ((b[i]).toNat % 128 + 128) = b[i] := by
          apply UInt8.toNat_inj.1
          rw [toNat_ofNat (by omega)]; omega
        rw [e, hup _ (by omega), uv_up _ y (by omega) hy, take_snoc hc, hb1, List.append_assoc]
        rfl
      · obtain ⟨q1, q2, q3, q0⟩ := hfit2 v tail h1 h2
        have hv : 128 ≤ v / 128 ^ i := by
          by_cases hv : v / 128 ^ i < 128
          · have := (q1 hv).1; omega
          · omega
        have e : v / 128 ^ i / 128 = v / 128 ^ (i + 1) := by rw [Nat.div_div_eq_div_mul, ← Nat.pow_succ]
        refine ⟨?_, .inr ?_, by rw [← e]; exact (q2 hv).2, ?_⟩
        · have hp := Nat.mod_pow_succ (x := v) (b := 128) (k := i)
          rw [hp, q0, (q2 hv).1, Nat.mul_comm]
          have : (v / 128 ^ i % 128 + 128) % 128 = v / 128 ^ i % 128 := by omega
          rw [this, Nat.add_comm]
        · rw [Nat.pow_succ]
          have := (Nat.le_div_iff_mul_le (Nat.pow_pos (by decide : 0 < 128))).1 hv
          rw [Nat.mul_comm]; exact this
        · rw [q3, uv_len2 hv, ← e]; omega
  cases B1 : eqI (Int.ofNat i) (Int.ofNat 9) <;> cases B2 : ltI (Int.ofNat 1) (bI b[i]) <;> cases B3 : ltI (Int.ofNat 0) (Int.ofNat i) <;> cases B4 : eqI (bI b[i]) (Int.ofNat 0) <;>
    simp only [↓jn_is, ↓br_t, ↓br_f, ↓pickB_t, ↓pickB_f, ↓asB_bool, ↓asI_int, ↓asBU_bool, ↓asBU_skip, B1, B2, B3, B4] <;>
    first | exact brk (by rw [B1, B2, B3, B4]; rfl) | exact cont (by rw [B1, B2, B3, B4]; rfl)

theorem t51 {h : H} {a : AV} {b : List UInt8} {mo : Nat} (r : SlB h a b) (hl : b.length ≤ 140737488351232) (hmo : mo < 9223372036854775808) (hk : ∀ x m e, SmQ b mo x m e → KR x m e h) : s51G J0 (s72G J0) a (Int.ofNat mo) h KR := by
  unfold s51G
  refine t72 r hl fun x m e hR => ?_
  have c0 : ltI (Int.ofNat mo) (Int.ofNat 0) = false := ge_ltI (Nat.zero_le _)
  have cm : wrapF .u64 (Int.ofNat mo) = Int.ofNat mo := wrapF_nat (kk := .u64) (by show mo < 18446744073709551616; omega)
  have z0 : eqI (Int.ofNat 0) (Int.ofNat 0) = true := rfl
  have z5 : eqI (Int.ofNat 5) (Int.ofNat 0) = false := rfl
  rcases hR with ⟨v, tail, hv, rfl, rfl, rfl, rfl⟩ | ⟨hn, rfl, rfl, rfl⟩
  · by_cases hmx : v ≤ mo
    · have c1 : ltI (Int.ofNat mo) (Int.ofNat v) = false := ge_ltI hmx
      have cx : wrapF .i64 (Int.ofNat v) = Int.ofNat v := wrapF_nat (kk := .i64) (by show v < 9223372036854775808; omega)
      simp only [↓jn_is, ↓br_t, ↓br_f, ↓pickB_t, ↓pickB_f, ↓asB_bool, ↓asI_int, ↓fB_eq, ↓fI_eq, ↓Bool.not_true, c0, cm, c1, cx, z0]
      exact hk _ _ _ (.inl ⟨v, tail, hmx, rfl, rfl, rfl, rfl⟩)
    · have c1 : ltI (Int.ofNat mo) (Int.ofNat v) = true := lt_ltI (by omega)
      simp only [↓jn_is, ↓br_t, ↓br_f, ↓pickB_t, ↓pickB_f, ↓asB_bool, ↓asI_int, ↓fB_eq, ↓fI_eq, ↓Bool.not_true, c0, cm, c1, z0]
      exact hk _ _ _ (.inr ⟨fun v' tail' h1 h2 => by obtain ⟨rfl, _⟩ := uv_pre h2; exact hmx h1, rfl, rfl, rfl⟩)
  · simp only [↓jn_is, ↓br_t, ↓br_f, ↓pickB_t, ↓pickB_f, ↓asB_bool, ↓asI_int, ↓fB_eq, ↓fI_eq, ↓Bool.not_false, c0, cm, z5]
    exact hk _ _ _ (.inr ⟨fun v' tail' h1 h2 => hn v' tail' (by omega) h2, rfl, rfl, rfl⟩)
end
end Go.Proofs.YtcohflkjinpcpaaGreatDoor

/- Numbers read from bytes, in the document's words. No condition. -/
namespace Go.Proofs.YtcohflkjinpcpaaGreatDoor
open Go Go.Am
set_option linter.all false
set_option maxRecDepth 100000
theorem sub_nat {a b : Nat} (h : b ≤ a) : Int.sub (Int.ofNat a) (Int.ofNat b) = Int.ofNat (a - b) := by
  show (a : Int) - (b : Int) = ((a - b : Nat) : Int); omega
def valB : List UInt8 → Nat
  | [] => 0
  | c :: l => valB l * 128 + c.toNat % 128
theorem valB_drop : ∀ (l : List UInt8) (k : Nat), valB (l.drop k) ≤ valB l
  | [], k => by simp [valB]
  | c :: l, 0 => Nat.le_refl _
  | c :: l, k + 1 => by
    have h1 := valB_drop l k
    have e : valB (c :: l) = valB l * 128 + c.toNat % 128 := rfl
    rw [e, List.drop_succ_cons]; omega
theorem valB_uv : ∀ v, valB (uv v) = v := by
  intro v
  induction v using Nat.strongRecOn with
  | ind v ih =>
    by_cases h : v < 128
    · rw [uv_small h]
      show 0 * 128 + (UInt8.ofNat v).toNat % 128 = v
      rw [toNat_ofNat (by omega)]; omega
    · rw [uv_big (by omega)]
      show valB (uv (v / 128)) * 128 + (UInt8.ofNat (v % 128 + 128)).toNat % 128 = v
      rw [ih _ (by omega), toNat_ofNat (by omega)]; omega
theorem tmod128 (c : UInt8) : Int.tmod (bI c) (Int.ofNat 128) = Int.ofNat (c.toNat % 128) := rfl
section
variable {KR : Int → Int → Int → H → Prop}
theorem t52 {h : H} {a : AV} {b : List UInt8} (r : SlB h a b) (hl : b.length ≤ 140737488351232) (hb : h.base ≤ h.next) (hk : ∀ x m e h', ReQ b x m e → Low h.next h h' → KR x m e h') : s52G J0 s30 a h KR := by
  unfold s52G
  refine lp_rule (fun c w d h' => ∃ n, w = (a, .int .i64 (Int.ofNat n), ()) ∧ d = [] ∧ Low h.next h h' ∧ 1 ≤ n ∧ n ≤ 11 ∧ c = 11 - n ∧ ∀ v tail, v < 9223372036854775808 → b = uv v ++ tail → n ≤ (uv v).length) ?_ (n := 10) (by unfold fuel; omega) ⟨1, rfl, rfl, Low.refl _ _, Nat.le_refl _, by decide, rfl, fun v tail _ _ => List.length_pos_iff.2 (uv_ne v)⟩
  rintro c self w d h' ⟨n, rfl, rfl, hL, hn1, hn11, rfl, hfit⟩ hs
  dsimp only
  have r' := r.low hL (Nat.le_refl _)
  rw [r'.len, asI_int, fB_eq]
  have fail : (∀ v tail, v < 9223372036854775808 → b = uv v ++ tail → False) → KR (Int.ofNat 0) (Int.ofNat 0) (Int.ofNat 5) h' := fun hf => hk _ _ _ _ (.inr ⟨hf, rfl, rfl, rfl⟩) hL
  by_cases hc : n ≤ b.length
  rotate_left
  · rw [lt_ltI (by omega), Bool.not_true]
    simp only [↓jn_is, ↓br_t, ↓br_f, ↓pickB_t, ↓pickB_f, ↓asB_bool, ↓asI_int]
    refine fail fun v tail h1 h2 => ?_
    have := hfit v tail h1 h2
    have := congrArg List.length h2
    rw [List.length_append] at this
    omega
  rw [ge_ltI hc, Bool.not_false]
  simp only [↓jn_is, ↓br_t, ↓br_f, ↓pickB_t, ↓pickB_f, ↓asB_bool, ↓asI_int]
  rw [fB_eq]
  by_cases h10 : n ≤ 10
  rotate_left
  · rw [lt_ltI (by omega), Bool.not_true]
    simp only [↓jn_is, ↓br_t, ↓br_f, ↓pickB_t, ↓pickB_f, ↓asB_bool, ↓asI_int]
    refine fail fun v tail h1 h2 => ?_
    have := hfit v tail h1 h2
    have := uv_len 9 v (Nat.lt_trans h1 (by decide))
    omega
  rw [ge_ltI h10, Bool.not_false]
  simp only [↓jn_is, ↓br_t, ↓br_f, ↓pickB_t, ↓pickB_f, ↓asB_bool, ↓asI_int]
  rw [fI_eq]
  have w1 : ∀ k : Nat, k ≤ 11 → wrapF .i64 (Int.sub (Int.ofNat k) (Int.ofNat 1)) = Int.sub (Int.ofNat k) (Int.ofNat 1) := fun k hk => by
    have e : Int.sub (Int.ofNat k) (Int.ofNat 1) = (k : Int) - 1 := rfl
    rw [e]; exact wrap_i64_in (by omega) (by omega)
  rw [w1 n hn11]
  -- the number that so many bytes tell
  refine lp_rule (fun c w d h'' => ∃ X, w = (a, .int .u64 (Int.ofNat X), .int .i64 (Int.ofNat n), .int .i64 (Int.sub (Int.ofNat c) (Int.ofNat 1)), ()) ∧ d = [] ∧ h'' = h' ∧ c ≤ n ∧ X < 18446744073709551616 ∧ ∀ v tail, v < 9223372036854775808 → b = uv v ++ tail → (uv v).length = n → X = valB ((uv v).drop c)) ?_ (n := n) (by unfold fuel; omega)
    ⟨0, rfl, rfl, rfl, Nat.le_refl _, by decide, fun v tail _ _ e => by rw [List.drop_of_length_le (by omega)]; rfl⟩
  rintro c self2 w d h'' ⟨X, rfl, rfl, rfl, hcn, hX, hfitX⟩ hs2
  dsimp only
  rw [asI_int, fB_eq]
  cases c with
  | succ c =>
    have e1 : Int.sub (Int.ofNat (c + 1)) (Int.ofNat 1) = Int.ofNat c := by rw [sub_nat (by omega)]; rfl
    have cc : ltI (Int.ofNat c) (Int.ofNat 0) = false := ge_ltI (Nat.zero_le _)
    obtain ⟨p, p1, p2⟩ := r'.at (i := c) (by omega)
    rw [e1, cc, Bool.not_false, br_t, asI_int, fI_eq, p1, p2 h'' _ (fun _ _ => rfl)]
    refine ck_intro rfl ?_
    rw [fI_eq, tmod128, fI_eq, fI_eq, asI_int, fI_eq]
    have cm : wrapF .u64 (Int.ofNat ((b[c]'(by omega)).toNat % 128)) = Int.ofNat ((b[c]'(by omega)).toNat % 128) := wrapF_nat (kk := .u64) (by show (b[c]'(by omega)).toNat % 128 < 18446744073709551616; omega)
    rw [cm, w1 c (by omega)]
    obtain ⟨Z, hZ1, hZ2⟩ := wrap64_ex (Int.mul (Int.ofNat X) (Int.ofNat 128))
    rw [hZ1]
    obtain ⟨Y, hY1, hY2⟩ := wrap64_ex (Int.add (Int.ofNat Z) (Int.ofNat ((b[c]'(by omega)).toNat % 128)))
    rw [hY1]
    refine hs2 c _ _ _ (by omega) ⟨Y, rfl, rfl, rfl, by omega, hY2, fun v tail h1 h2 h3 => ?_⟩
    have hXv := hfitX v tail h1 h2 h3
    have hb : b[c]'(by omega) = (uv v)[c]'(by omega) := by simp only [h2]; rw [List.getElem_append_left]
    have hd : (uv v).drop c = (uv v)[c]'(by omega) :: (uv v).drop (c + 1) := List.drop_eq_getElem_cons (by omega)
    have hval : valB ((uv v).drop c) = X * 128 + ((uv v)[c]'(by omega)).toNat % 128 := by rw [hd, hXv]; rfl
    have hle := valB_drop (uv v) c
    rw [valB_uv] at hle
    have hZ : Z = X * 128 := by
      have e : wrapF .u64 (Int.mul (Int.ofNat X) (Int.ofNat 128)) = Int.ofNat (X * 128) := wrapF_nat (kk := .u64) (m := X * 128) (by show X * 128 < 18446744073709551616; omega)
      rw [e] at hZ1; injection hZ1 with hZ1; exact hZ1.symm
    have hY : Y = Z + (b[c]'(by omega)).toNat % 128 := by
      have e : wrapF .u64 (Int.add (Int.ofNat Z) (Int.ofNat ((b[c]'(by omega)).toNat % 128))) = Int.ofNat (Z + (b[c]'(by omega)).toNat % 128) := wrapF_nat (kk := .u64) (m := Z + (b[c]'(by omega)).toNat % 128) (by rw [hb, hZ]; show X * 128 + ((uv v)[c]'(by omega)).toNat % 128 < 18446744073709551616; omega)
      rw [e] at hY1; injection hY1 with hY1; exact hY1.symm
    rw [hY, hZ, hb, hval]
  | zero =>
    have cc : ltI (Int.sub (Int.ofNat 0) (Int.ofNat 1)) (Int.ofNat 0) = true := rfl
    rw [cc, Bool.not_true, br_f, asI_int]
    clear hs2 self2
    refine t30 hX (by have := hL.next; rw [hL.base]; omega) fun y h3 ry l3 => ?_
    have r3 := r'.low l3 (Nat.le_refl _)
    have L3 := hL.trans (l3.down hL.next)
    rw [ry.len, asI_int, fB_eq]
    have heq : eqI (Int.ofNat (uv X).length) (Int.ofNat n) = decide ((uv X).length = n) := by
      by_cases he : (uv X).length = n
      · rw [he, decide_eq_true rfl]; exact eqI_true.2 rfl
      · rw [decide_eq_false he, eqI_false]; intro h; have h : ((uv X).length : Int) = (n : Int) := h; omega
    rw [heq]
    refine lp_rule (fun c w d h'' => ∃ i s, w = (a, .int .u64 (Int.ofNat X), .int .i64 (Int.ofNat n), y, .bool s, .int .i64 (Int.ofNat i), ()) ∧ d = [] ∧ h'' = h3 ∧ i ≤ n ∧ c = n - i ∧ (s = true → (uv X).length = n ∧ ∀ (i' : Nat) (q1 : i' < (uv X).length) (q2 : i' < b.length), i' < i → (uv X)[i'] = b[i']) ∧
        (s = false → ∀ v tail, v < 9223372036854775808 → b = uv v ++ tail → (uv v).length = n → False)) ?_ (n := n) (by unfold fuel; omega)
      ⟨0, decide ((uv X).length = n), rfl, rfl, rfl, Nat.zero_le _, rfl, fun h => ⟨of_decide_eq_true h, fun i' _ _ h => absurd h (Nat.not_lt_zero _)⟩, fun h v tail h1 h2 h4 => of_decide_eq_false h (by
        have := hfitX v tail h1 h2 h4
        rw [List.drop_zero, valB_uv] at this
        rw [this]; exact h4)⟩
    rintro c self3 w d h'' ⟨i, s, rfl, rfl, rfl, hin, rfl, ht, hf⟩ hs3
    dsimp only
    rw [asI_int, asI_int, fB_eq]
    have out : (s = true → i = n) → asB (AV.bool s) fun b58 => br b58 (leaveK (gam J0 [(30, w30 s30)]) [] h'' fun h59 => asI .u64 (AV.int .u64 (Int.ofNat X)) fun x60 => asI .i64 (AV.int .i64 (Int.ofNat n)) fun x61 => KR x60 x61 (Int.ofNat 0) h59)
        (asI .i64 (AV.int .i64 (Int.ofNat n)) fun x62 => fI (wrapF .i64 (Int.add x62 (Int.ofNat 1))) fun x63 => self (a, (AV.int .i64 x63), ()) [] h'') := fun hsi => by
      rw [asB_bool]
      cases s with
      | true =>
        rw [br_t]
        have hi := hsi rfl
        obtain ⟨t1, t2⟩ := ht rfl
        have hpre : uv X = b.take n := by
          apply List.ext_getElem
          · rw [List.length_take]; omega
          · intro j q1 q2
            rw [List.getElem_take]
            exact t2 j q1 (by omega) (by omega)
        show KR (Int.ofNat X) (Int.ofNat n) (Int.ofNat 0) h''
        refine hk _ _ _ _ (.inl ⟨X, b.drop n, hX, ?_, rfl, by rw [t1], rfl⟩) L3
        rw [hpre, List.take_append_drop]
      | false =>
        rw [br_f, asI_int, fI_eq, add_one n (by omega)]
        refine hs _ _ _ _ (by omega) ⟨n + 1, rfl, rfl, L3, by omega, by omega, rfl, fun v tail h1 h2 => ?_⟩
        have q1 := hfit v tail h1 h2
        have q2 := hf rfl v tail h1 h2
        rcases Nat.lt_or_ge n (uv v).length with q3 | q3
        · exact q3
        · exact (q2 (by omega)).elim
    by_cases hci : i < n
    · rw [lt_ltI hci]
      simp only [↓jn_is, ↓br_t, ↓br_f, ↓pickB_t, ↓pickB_f]
      cases s with
      | false =>
        simp only [↓asB_bool, ↓br_t, ↓br_f]
        have := out (fun h => by cases h)
        simp only [↓asB_bool, ↓br_t, ↓br_f] at this
        exact this
      | true =>
        simp only [↓asB_bool, ↓br_t, ↓br_f]
        obtain ⟨t1, t2⟩ := ht rfl
        obtain ⟨p, p1, p2⟩ := ry.slb.at (i := i) (by omega)
        obtain ⟨p', p3, p4⟩ := r3.at (i := i) (by omega)
        rw [p1, p2 _ _ (fun _ _ => rfl), p3, p4 _ _ (fun _ _ => rfl), fB_eq, asI_int, fI_eq, add_one i (by omega)]
        have e := eqI_bc ((uv X)[i]'(by omega)) (b[i]'(by omega))
        have e : eqI (bI ((uv X)[i]'(by omega))) (bI (b[i]'(by omega))) = decide ((uv X)[i]'(by omega) = b[i]'(by omega)) := e
        rw [e]
        refine hs3 _ _ _ _ (by omega) ⟨i + 1, _, rfl, rfl, rfl, hci, rfl, fun h => ⟨t1, fun i' q1 q2 q3 => ?_⟩, fun h v tail h1 h2 h4 => ?_⟩
        · by_cases q4 : i' < i
          · exact t2 i' q1 q2 q4
          · obtain rfl : i' = i := by omega
            exact of_decide_eq_true h
        · apply of_decide_eq_false h
          have hXv := hfitX v tail h1 h2 h4
          rw [List.drop_zero, valB_uv] at hXv
          subst hXv
          simp only [h2]; rw [List.getElem_append_left]
    · rw [ge_ltI (by omega)]
      simp only [↓jn_is, ↓br_t, ↓br_f, ↓pickB_t, ↓pickB_f, ↓asB_bool]
      have := out (fun _ => by omega)
      exact this

theorem t34 {h : H} {a : AV} {b : List UInt8} {mo : Nat} (r : SlB h a b) (hl : b.length ≤ 140737488351232) (hmo : mo < 9223372036854775808) (hb : h.base ≤ h.next) (hk : ∀ x m e h', SmQ b mo x m e → Low h.next h h' → KR x m e h') : s34G J0 (s52G J0 s30) a (Int.ofNat mo) h KR := by
  unfold s34G
  refine t52 r hl hb fun x m e h' hR lo => ?_
  have c0 : ltI (Int.ofNat mo) (Int.ofNat 0) = false := ge_ltI (Nat.zero_le _)
  have cm : wrapF .u64 (Int.ofNat mo) = Int.ofNat mo := wrapF_nat (kk := .u64) (by show mo < 18446744073709551616; omega)
  have z0 : eqI (Int.ofNat 0) (Int.ofNat 0) = true := rfl
  have z5 : eqI (Int.ofNat 5) (Int.ofNat 0) = false := rfl
  rcases hR with ⟨v, tail, hv, rfl, rfl, rfl, rfl⟩ | ⟨hn, rfl, rfl, rfl⟩
  · by_cases hmx : v ≤ mo
    · have c1 : ltI (Int.ofNat mo) (Int.ofNat v) = false := ge_ltI hmx
      have cx : wrapF .i64 (Int.ofNat v) = Int.ofNat v := wrapF_nat (kk := .i64) (by show v < 9223372036854775808; omega)
      simp only [↓jn_is, ↓br_t, ↓br_f, ↓pickB_t, ↓pickB_f, ↓asB_bool, ↓asI_int, ↓fB_eq, ↓fI_eq, ↓Bool.not_true, c0, cm, c1, cx, z0]
      exact hk _ _ _ _ (.inl ⟨v, tail, hmx, rfl, rfl, rfl, rfl⟩) lo
    · have c1 : ltI (Int.ofNat mo) (Int.ofNat v) = true := lt_ltI (by omega)
      simp only [↓jn_is, ↓br_t, ↓br_f, ↓pickB_t, ↓pickB_f, ↓asB_bool, ↓asI_int, ↓fB_eq, ↓fI_eq, ↓Bool.not_true, c0, cm, c1, z0]
      exact hk _ _ _ _ (.inr ⟨fun v' tail' h1 h2 => by obtain ⟨rfl, _⟩ := uv_pre h2; exact hmx h1, rfl, rfl, rfl⟩) lo
  · simp only [↓jn_is, ↓br_t, ↓br_f, ↓pickB_t, ↓pickB_f, ↓asB_bool, ↓asI_int, ↓fB_eq, ↓fI_eq, ↓Bool.not_false, c0, cm, z5]
    exact hk _ _ _ _ (.inr ⟨fun v' tail' h1 h2 => hn v' tail' (by omega) h2, rfl, rfl, rfl⟩) lo
end
end Go.Proofs.YtcohflkjinpcpaaGreatDoor
