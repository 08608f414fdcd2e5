/- Numbers read from bytes. No condition. -/
import Derived.Test.YtlbigopkplckaaaRdF
namespace Go.Proofs.Ytlbigopkplckaaa
open Go Go.Am
set_option linter.all false
set_option maxRecDepth 100000
theorem Row.at {g : Bool} {n : Nat} {h : H} {v : AV} {b : List UInt8} (r : Row g 5 n h v b) {i : Nat} (hi : i < b.length) : ∃ p, (∀ (kk : IntKind) (k : AV → Prop), ixK 1 v (.int kk (Int.ofNat i)) k = k p) ∧ ∀ k : Int → Prop, ldI .u8 p h k = k (bI b[i]) := by
  rcases r with ⟨rfl, rfl⟩ | ⟨id, ex, sg, rfl, r2, r3, r4, r5⟩
  · simp at hi
  · refine ⟨.ptr id i, fun kk k => ixK1 hi k, fun k => ?_⟩
    show asRow' (h.get id) (fun _ _ cs => op' (lgetO cs i) fun v => asI .u8 v k) (fun _ _ _ s => ck (Nat.blt i s.len) (fN (s.get i) fun c => asI .u8 (.int .u8 (Int.ofNat c)) k)) = _
    rw [r4, asRow_bytes, fN_eq, asI_int]
    show ck (Nat.blt i b.length) _ = _
    rw [(blt_iff _ _).2 hi, Str.get_of _ _ hi]; rfl
theorem wrap64_ex (n : Int) : ∃ m : Nat, wrapF .u64 n = Int.ofNat m ∧ m < 18446744073709551616 := by
  rw [wrap_u64]
  refine ⟨(n % 18446744073709551616).toNat, ?_, ?_⟩
  · show _ = ((n % 18446744073709551616).toNat : Int); omega
  · omega
theorem landn128 : ∀ b, b < 256 → landnF .u8 (Int.ofNat b) (Int.ofNat 128) = Int.ofNat (b % 128) := by decide +kernel
/-- the first byte of a number's bytes -/
theorem uv_head {v : Nat} {r : List UInt8} {c : UInt8} {tail : List UInt8} (h : c :: r = uv v ++ tail) : (v < 128 → c.toNat = v ∧ r = tail) ∧ (128 ≤ v → c.toNat = v % 128 + 128 ∧ r = uv (v / 128) ++ tail) := by
  refine ⟨fun hv => ?_, fun hv => ?_⟩
  · rw [uv_small hv] at h; injection h with h1 h2
    exact ⟨by rw [h1, toNat_ofNat (by omega)], h2⟩
  · rw [uv_big hv] at h; injection h with h1 h2
    exact ⟨by rw [h1, toNat_ofNat (by omega)], h2⟩
theorem uv_len1 {v : Nat} (h : v < 128) : (uv v).length = 1 := by rw [uv_small h]; rfl
theorem uv_len2 {v : Nat} (h : 128 ≤ v) : (uv v).length = 1 + (uv (v / 128)).length := by rw [uv_big h, List.length_cons, Nat.add_comm]
def ReP (b : List UInt8) (x m e : Int) : Prop := (∀ (v : Nat) (tail : List UInt8), v < 9223372036854775808 → b = uv v ++ tail → x = Int.ofNat v ∧ m = Int.ofNat (uv v).length ∧ e = Int.ofNat 0) ∧ (e = Int.ofNat 0 → ∃ xv mv : Nat, x = Int.ofNat xv ∧ xv < 18446744073709551616 ∧ m = Int.ofNat mv ∧ mv ≤ b.length)
theorem pow128 (i : Nat) (h : 9 ≤ i) : 9223372036854775808 ≤ 128 ^ i := by
  have h1 : (128 : Nat) ^ 9 ≤ 128 ^ i := Nat.pow_le_pow_right (by decide) h
  have h2 : (128 : Nat) ^ 9 = 9223372036854775808 := by decide
  omega
theorem or_pow {x d i : Nat} (hi : i ≤ 9) (hx : x < 128 ^ i) (hd : d * 128 ^ i + x < 18446744073709551616) : lorF .u64 (Int.ofNat x) (shlF .u64 (Int.ofNat d) (7 * i)) = Int.ofNat (d * 128 ^ i + x) := by
  have e0 : (2 : Nat) ^ (7 * i) = 128 ^ i := by rw [Nat.pow_mul]
  have e1 : shlF .u64 (Int.ofNat d) (7 * i) = Int.ofNat (d * 128 ^ i) := by
    unfold shlF
    rw [nmin_le (by show 7 * i ≤ 64; omega)]
    have e2 : Nat.shiftLeft 1 (7 * i) = 128 ^ i := by
      show 1 <<< (7 * i) = _
      rw [Nat.shiftLeft_eq, e0, Nat.one_mul]
    rw [e2]
    exact wrapF_nat (kk := .u64) (m := d * 128 ^ i) (by show d * 128 ^ i < 18446744073709551616; omega)
  rw [e1]
  unfold lorF
  rw [toU_nat (by omega), toU_nat (by omega)]
  have e : Nat.lor x (d * 128 ^ i) = d * 128 ^ i + x := by
    have := Nat.shiftLeft_add_eq_or_of_lt (i := 7 * i) (b := x) (by rw [e0]; exact hx) d
    rw [Nat.shiftLeft_eq, e0] at this
    rw [this]; exact Nat.or_comm _ _
  rw [e]
  exact wrapF_nat (kk := .u64) (by show d * 128 ^ i + x < 18446744073709551616; exact hd)
section
variable {KR : Int → Int → Int → H → Prop}
theorem t85 {g : Bool} {n : Nat} {h : H} {a : AV} {b : List UInt8} (r : Row g 5 n h a b) (hl : b.length ≤ 140737488351232) (hk : ∀ x m e, ReP b x m e → KR x m e h) : s85G J0 a h KR := by
  unfold s85G
  refine jd_intro (fun _ d' h' => d' = [] ∧ h' = h ∧ ∀ v tail, v < 9223372036854775808 → b = uv v ++ tail → False) (fun j hj => ?_) ?_
  rotate_left
  · rintro _ d' h' ⟨rfl, rfl, hn⟩
    exact hk _ _ _ ⟨fun v tail h1 h2 => (hn v tail h1 h2).elim, fun h => by cases h⟩
  refine lp_rule (fun c w d h' => ∃ i xv, w = (a, .int .u64 (Int.ofNat xv), .int .i64 (Int.ofNat i), ()) ∧ d = [] ∧ h' = h ∧ i ≤ 10 ∧ i ≤ b.length ∧ c = 10 - i ∧ xv < 18446744073709551616 ∧
      ∀ v tail, v < 9223372036854775808 → b = uv v ++ tail → xv = v % 128 ^ i ∧ (i = 0 ∨ 128 ^ i ≤ v) ∧ b.drop i = uv (v / 128 ^ i) ++ tail ∧ (uv v).length = i + (uv (v / 128 ^ i)).length) ?_ (n := 10) (by unfold fuel; omega)
    ⟨0, 0, rfl, rfl, rfl, Nat.zero_le _, Nat.zero_le _, rfl, by decide, fun v tail h1 h2 => ⟨by simp [Nat.mod_one], .inl rfl, by simpa using h2, by simp⟩⟩
  rintro c self w d h' ⟨i, xv, rfl, rfl, rfl, hi10, hib, rfl, hx, hfit⟩ hs
  dsimp only
  rw [r.len, asI_int, fB_eq]
  by_cases hc : i < b.length
  rotate_left
  · rw [ge_ltI (by omega)]
    simp only [↓jn_is, ↓br_t, ↓br_f, ↓pickB_t, ↓pickB_f, ↓asB_bool, ↓asI_int]
    refine hj _ _ _ ⟨rfl, rfl, fun v tail h1 h2 => ?_⟩
    obtain ⟨_, _, q, _⟩ := hfit v tail h1 h2
    rw [List.drop_of_length_le (by omega)] at q
    have := congrArg List.length q
    have hne := uv_ne (v / 128 ^ i)
    cases hu : uv (v / 128 ^ i) with
    | nil => exact hne hu
    | cons _ _ => rw [hu] at this; simp at this
  rw [lt_ltI hc]
  simp only [↓jn_is, ↓br_t, ↓br_f, ↓pickB_t, ↓pickB_f, ↓asB_bool, ↓asI_int]
  rw [fB_eq]
  by_cases h10 : i < 10
  rotate_left
  · rw [ge_ltI (by omega)]
    simp only [↓jn_is, ↓br_t, ↓br_f, ↓pickB_t, ↓pickB_f, ↓asB_bool, ↓asI_int]
    refine hj _ _ _ ⟨rfl, rfl, fun v tail h1 h2 => ?_⟩
    obtain ⟨_, q, _, _⟩ := hfit v tail h1 h2
    have := pow128 i (by omega)
    omega
  rw [lt_ltI h10]
  obtain ⟨p, p1, p2⟩ := Row.at r hc
  have hd := drop_cons (r := []) hc
  simp only [↓jn_is, ↓br_t, ↓br_f, ↓pickB_t, ↓pickB_f, ↓asB_bool, ↓asI_int, ↓p1, ↓p2, ↓fB_eq]
  have brk : ((eqI (Int.ofNat i) (Int.ofNat 9) && ltI (Int.ofNat 1) (bI b[i])) || (ltI (Int.ofNat 0) (Int.ofNat i) && eqI (bI b[i]) (Int.ofNat 0))) = true → j () [] h' := fun hcond => by
    refine hj _ _ _ ⟨rfl, rfl, fun v tail h1 h2 => ?_⟩
    obtain ⟨_, q1, q2, _⟩ := hfit v tail h1 h2
    rw [Bool.or_eq_true, Bool.and_eq_true, Bool.and_eq_true] at hcond
    rcases hcond with ⟨c1, _⟩ | ⟨c1, c2⟩
    · have h9 : i = 9 := by have := eqI_true.1 c1; have h2 : (i : Int) = 9 := this; omega
      have := pow128 i (by omega)
      omega
    · have hi0 : 0 < i := lt_of_ltI c1
      rw [eqI_b0] at c2
      have c2 := of_decide_eq_true c2
      rw [hd, c2] at q2
      have hv1 : 1 ≤ v / 128 ^ i := by
        rcases q1 with q1 | q1
        · omega
        · exact (Nat.one_le_div_iff (Nat.pow_pos (by decide))).2 q1
      obtain ⟨u1, u2⟩ := uv_head q2
      by_cases hv : v / 128 ^ i < 128
      · have := (u1 hv).1; simp at this; omega
      · have := (u2 (by omega)).1; simp at this
  have e7 : wrapF .i64 (Int.mul (Int.ofNat 7) (Int.ofNat i)) = Int.ofNat (7 * i) := wrapF_nat (kk := .i64) (m := 7 * i) (by show 7 * i < 9223372036854775808; omega)
  have hcl := (b[i]).toNat_lt
  have eland : wrapF .u64 (landnF .u8 (bI b[i]) (Int.ofNat 128)) = Int.ofNat ((b[i]).toNat % 128) := by
    have := landn128 (b[i]).toNat hcl
    rw [show bI b[i] = Int.ofNat (b[i]).toNat from rfl, this]
    exact wrapF_nat (kk := .u64) (by show (b[i]).toNat % 128 < 18446744073709551616; omega)
  have cont : ((eqI (Int.ofNat i) (Int.ofNat 9) && ltI (Int.ofNat 1) (bI b[i])) || (ltI (Int.ofNat 0) (Int.ofNat i) && eqI (bI b[i]) (Int.ofNat 0))) = false →
      fI (landnF .u8 (bI b[i]) (Int.ofNat 128)) fun x59 => fI (wrapF .u64 x59) fun x60 => fI (wrapF .i64 (Int.mul (Int.ofNat 7) (Int.ofNat i))) fun x62 => asNat (AV.int .i64 x62) fun n63 => fI (shlF .u64 x60 n63) fun x64 => fI (lorF .u64 (Int.ofNat xv) x64) fun x66 =>
        fI (wrapF .i64 (Int.add (Int.ofNat i) (Int.ofNat 1))) fun x68 => br (ltI (bI b[i]) (Int.ofNat 128)) (leaveK (gam J0 []) [] h' fun h70 => KR x66 x68 (Int.ofNat 0) h70) (self (a, (AV.int .u64 x66), (AV.int .i64 x68), ()) [] h') := fun hcond => by
    simp only [fI_eq]
    rw [eland, e7, asNat_int, add_one i (by omega)]
    obtain ⟨y, hy1, hy2⟩ : ∃ y : Nat, lorF .u64 (Int.ofNat xv) (shlF .u64 (Int.ofNat ((b[i]).toNat % 128)) (7 * i)) = Int.ofNat y ∧ y < 18446744073709551616 := by unfold lorF; exact wrap64_ex _
    have hfit2 : ∀ v tail, v < 9223372036854775808 → b = uv v ++ tail → y = v % 128 ^ (i + 1) ∧ (v / 128 ^ i < 128 → (b[i]).toNat = v / 128 ^ i ∧ b.drop (i + 1) = tail) ∧ (128 ≤ v / 128 ^ i → (b[i]).toNat = v / 128 ^ i % 128 + 128 ∧ b.drop (i + 1) = uv (v / 128 ^ i / 128) ++ tail) ∧ (uv v).length = i + (uv (v / 128 ^ i)).length := fun v tail h1 h2 => by
      obtain ⟨q0, q1, q2, q3⟩ := hfit v tail h1 h2
      rw [hd] at q2
      obtain ⟨u1, u2⟩ := uv_head q2
      have hmod : (b[i]).toNat % 128 = v / 128 ^ i % 128 := by
        by_cases hv : v / 128 ^ i < 128
        · rw [(u1 hv).1]
        · rw [(u2 (by omega)).1]; omega
      have hp := Nat.mod_pow_succ (x := v) (b := 128) (k := i)
      have hle := Nat.mod_le v (128 ^ (i + 1))
      have hor := or_pow (x := v % 128 ^ i) (d := v / 128 ^ i % 128) (i := i) (by omega) (Nat.mod_lt _ (Nat.pow_pos (by decide))) (by rw [Nat.mul_comm]; omega)
      refine ⟨?_, u1, u2, q3⟩
      rw [q0, hmod, hor] at hy1
      injection hy1 with hy1
      rw [← hy1, hp, Nat.mul_comm, Nat.add_comm]
    rw [hy1]
    refine br_intro (fun h128 => ?_) (fun h128 => ?_)
    · have h128 : (b[i]).toNat < 128 := lt_of_ltI h128
      refine hk _ _ _ ⟨fun v tail h1 h2 => ?_, fun _ => ⟨y, i + 1, rfl, hy2, rfl, hc⟩⟩
      obtain ⟨q0, q1, q2, q3⟩ := hfit2 v tail h1 h2
      have hv : v / 128 ^ i < 128 := by
        by_cases hv : v / 128 ^ i < 128
        · exact hv
        · have := (q2 (by omega)).1; omega
      have hv2 : v < 128 ^ (i + 1) := by rw [Nat.pow_succ, Nat.mul_comm]; exact (Nat.div_lt_iff_lt_mul (Nat.pow_pos (by decide))).1 hv
      rw [Nat.mod_eq_of_lt hv2] at q0
      exact ⟨by rw [q0], by rw [q3, uv_len1 hv], rfl⟩
    · have h128 : 128 ≤ (b[i]).toNat := ge_of_ltI h128
      refine hs _ _ _ _ (by omega) ⟨i + 1, y, rfl, rfl, rfl, by omega, hc, rfl, hy2, fun v tail h1 h2 => ?_⟩
      obtain ⟨q0, q1, q2, q3⟩ := hfit2 v tail h1 h2
      have hv : 128 ≤ v / 128 ^ i := by
        by_cases hv : v / 128 ^ i < 128
        · have := (q1 hv).1; omega
        · omega
      have e : v / 128 ^ i / 128 = v / 128 ^ (i + 1) := by rw [Nat.div_div_eq_div_mul, ← Nat.pow_succ]
      refine ⟨q0, .inr ?_, by rw [← e]; exact (q2 hv).2, ?_⟩
      · rw [Nat.pow_succ]
        have := (Nat.le_div_iff_mul_le (Nat.pow_pos (by decide : 0 < 128))).1 hv
        rw [Nat.mul_comm]; exact this
      · rw [q3, uv_len2 hv, ← e]; omega
  cases B1 : eqI (Int.ofNat i) (Int.ofNat 9) <;> cases B2 : ltI (Int.ofNat 1) (bI b[i]) <;> cases B3 : ltI (Int.ofNat 0) (Int.ofNat i) <;> cases B4 : eqI (bI b[i]) (Int.ofNat 0) <;>
    simp only [↓jn_is, ↓br_t, ↓br_f, ↓pickB_t, ↓pickB_f, ↓asB_bool, ↓asI_int, ↓asBU_bool, ↓asBU_skip, B1, B2, B3, B4] <;>
    first | exact brk (by rw [B1, B2, B3, B4]; rfl) | exact cont (by rw [B1, B2, B3, B4]; rfl)
end
end Go.Proofs.Ytlbigopkplckaaa
