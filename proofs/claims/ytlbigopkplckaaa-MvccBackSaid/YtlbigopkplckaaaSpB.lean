/- The functions of the layer of versions, each told by what it answers: those that lay bytes behind each other. No condition. -/
import Derived.Test.YtlbigopkplckaaaSpA
namespace Go.Proofs.Ytlbigopkplckaaa
open Go Go.Am
set_option linter.all false
set_option maxRecDepth 100000
/-! ## bytes -/
def esc (c : UInt8) : List UInt8 := if c = 0 then [0, 255] else [c]
def midP (l : List UInt8) : List UInt8 := l.flatMap esc
def mid (l : List UInt8) : List UInt8 := midP l ++ [0, 1]
theorem midP_snoc (l : List UInt8) (c : UInt8) : midP (l ++ [c]) = midP l ++ esc c := by simp [midP, List.flatMap_append]
theorem esc_len (c : UInt8) : (esc c).length ≤ 2 := by unfold esc; split <;> simp
theorem midP_len (l : List UInt8) : (midP l).length ≤ 2 * l.length := by
  induction l with
  | nil => simp [midP]
  | cons c l ih =>
    have h1 : midP (c :: l) = esc c ++ midP l := rfl
    have h2 := esc_len c
    rw [h1, List.length_append, List.length_cons]; omega
def uv (x : Nat) : List UInt8 := if h : x < 128 then [UInt8.ofNat x] else UInt8.ofNat (x % 128 + 128) :: uv (x / 128)
termination_by x
decreasing_by omega
theorem uv_small {x : Nat} (h : x < 128) : uv x = [UInt8.ofNat x] := by rw [uv, dif_pos h]
theorem uv_big {x : Nat} (h : 128 ≤ x) : uv x = UInt8.ofNat (x % 128 + 128) :: uv (x / 128) := by rw [uv, dif_neg (by omega)]
theorem uv_len : ∀ (n x : Nat), x < 128 ^ (n + 1) → (uv x).length ≤ n + 1
  | 0, x, h => by rw [uv_small (by simpa using h)]; simp
  | n + 1, x, h => by
    by_cases h1 : x < 128
    · rw [uv_small h1]; simp
    · rw [uv_big (by omega), List.length_cons]
      have := uv_len n (x / 128) (by rw [Nat.div_lt_iff_lt_mul (by decide)]; rw [Nat.pow_succ] at h; exact h)
      omega
def be : Nat → Nat → List UInt8
  | 0, _ => []
  | k + 1, x => UInt8.ofNat (x >>> (8 * k)) :: be k x
theorem be_len : ∀ k x, (be k x).length = k
  | 0, _ => rfl
  | k + 1, x => by show (be k x).length + 1 = k + 1; rw [be_len k x]
def stB (w l t : Int) : List UInt8 := be 8 (9223372036854775807 - w).toNat ++ (be 4 (2147483647 - l).toNat ++ be 4 (2147483647 - t).toNat)
theorem stB_len (w l t : Int) : (stB w l t).length = 16 := by simp [stB, be_len]
def flagB (d : Bool) (v : List UInt8) : List UInt8 := if d then [1] else 0 :: v
theorem take_snoc {m : List UInt8} {i : Nat} (h : i < m.length) : m.take (i + 1) = m.take i ++ [m[i]] := by rw [List.take_succ_eq_append_getElem h]
theorem add_one (i : Nat) (h : i + 1 < 9223372036854775808) : wrapF .i64 (Int.add (Int.ofNat i) (Int.ofNat 1)) = Int.ofNat (i + 1) := wrapF_nat (kk := .i64) (m := i + 1) (by show i + 1 < 9223372036854775808; exact h)
/-! ## the middle of a key -/
section
variable {K : Str → Prop}
theorem t29 {c : UInt8} {m : List UInt8} (hm : m.length ≤ 128) (hk : ∀ r, r = Str.of (c :: mid m) → K r) : s29G J0 ⟨1, c.toNat⟩ (Str.of m) H0 fun r _ => K r := by
  unfold s29G
  rw [pushK_is]
  refine lp_rule (fun n v d h => ∃ i row, v = (.str (Str.of m), row, .int .i64 (Int.ofNat i), ()) ∧ d = [] ∧ i ≤ m.length ∧ n = m.length - i ∧ Row true 5 0 h row (c :: midP (m.take i)) ∧ h.base = 0) ?_ (n := m.length) (by unfold fuel; omega) ⟨0, _, rfl, rfl, Nat.zero_le _, rfl, ?_, rfl⟩
  · rintro n self v d h ⟨i, row, rfl, rfl, hi, rfl, hr, hb⟩ hs
    have hpl := midP_len (m.take i)
    have htl : (m.take i).length ≤ 128 := by rw [List.length_take]; omega
    simp only [asS_str, asI_int, fB_eq]
    refine br_intro (fun hc => ?_) (fun hc => ?_)
    · have hi : i < m.length := by
        have := ltI_true.1 hc
        have h2 : (i : Int) < (m.length : Int) := this
        omega
      refine jd_intro (fun v' d' h' => ∃ row', v' = (.str (Str.of m), row', .int .i64 (Int.ofNat i), ()) ∧ d' = [] ∧ Row true 5 0 h' row' (c :: midP (m.take (i + 1))) ∧ h'.base = 0) (fun j hj => ?_) ?_
      · rw [ixs_of hi]
        refine ap_lit (m := [m[i]]) hr (by omega) (Nat.zero_le _) (by simp [mostRoom]; omega) fun v1 h1 r1 l1 => ?_
        rw [ixs_of hi]
        rw [eqI_b0]
        refine br_intro (fun h0 => ?_) fun h0 => ?_
        · refine ap_lit (m := [255]) r1 (by rw [l1.base]; omega) (Nat.zero_le _) (by simp [mostRoom]; omega) fun v2 h2 r2 l2 => hj _ _ _ ⟨v2, rfl, rfl, ?_, by rw [l2.base, l1.base]; exact hb⟩
          have h0 : m[i] = 0 := of_decide_eq_true h0
          rw [take_snoc hi, midP_snoc, esc, if_pos h0]
          rw [h0] at r2
          simpa using r2
        · refine hj _ _ _ ⟨v1, rfl, rfl, ?_, by rw [l1.base]; exact hb⟩
          have h0 : ¬ m[i] = 0 := of_decide_eq_false h0
          rw [take_snoc hi, midP_snoc, esc, if_neg h0]
          simpa using r1
      · rintro v' d' h' ⟨row', rfl, rfl, hr', hb'⟩
        simp only [asI_int, fI_eq]
        rw [add_one i (by omega)]
        exact hs (m.length - (i + 1)) _ _ _ (by omega) ⟨i + 1, row', rfl, rfl, hi, rfl, hr', hb'⟩
    · have hi : m.length ≤ i := by
        have := ltI_false.1 hc
        have h2 : (m.length : Int) ≤ (i : Int) := this
        omega
      refine ap_lit (m := [0, 1]) hr (by omega) (Nat.zero_le _) (by simp [mostRoom]; omega) fun v1 h1 r1 l1 => ?_
      rw [r1.str]
      refine hk _ ?_
      rw [List.take_of_length_le hi, mid]; simp
  · rw [of_one]
    exact Row.push true false (Nat.zero_le _)
theorem t38 {m : List UInt8} (hm : m.length ≤ 128) (hk : ∀ r, r = Str.of (mid m) → K r) : s38G J0 (Str.of m) H0 fun r _ => K r := by
  unfold s38G
  refine lp_rule (fun n v d h => ∃ i row, v = (.str (Str.of m), row, .int .i64 (Int.ofNat i), ()) ∧ d = [] ∧ i ≤ m.length ∧ n = m.length - i ∧ Row true 5 0 h row (midP (m.take i)) ∧ h.base = 0) ?_ (n := m.length) (by unfold fuel; omega) ⟨0, _, rfl, rfl, Nat.zero_le _, rfl, Row.nil _ _ _ _, rfl⟩
  rintro n self v d h ⟨i, row, rfl, rfl, hi, rfl, hr, hb⟩ hs
  have hpl := midP_len (m.take i)
  have htl : (m.take i).length ≤ 128 := by rw [List.length_take]; omega
  simp only [asS_str, asI_int, fB_eq]
  refine br_intro (fun hc => ?_) (fun hc => ?_)
  · have hi : i < m.length := by
      have := ltI_true.1 hc
      have h2 : (i : Int) < (m.length : Int) := this
      omega
    refine jd_intro (fun v' d' h' => ∃ row', v' = (.str (Str.of m), row', .int .i64 (Int.ofNat i), ()) ∧ d' = [] ∧ Row true 5 0 h' row' (midP (m.take (i + 1))) ∧ h'.base = 0) (fun j hj => ?_) ?_
    · rw [ixs_of hi]
      refine ap_lit (m := [m[i]]) hr (by omega) (Nat.zero_le _) (by simp [mostRoom]; omega) fun v1 h1 r1 l1 => ?_
      rw [ixs_of hi]
      rw [eqI_b0]
      refine br_intro (fun h0 => ?_) fun h0 => ?_
      · refine ap_lit (m := [255]) r1 (by rw [l1.base]; omega) (Nat.zero_le _) (by simp [mostRoom]; omega) fun v2 h2 r2 l2 => hj _ _ _ ⟨v2, rfl, rfl, ?_, by rw [l2.base, l1.base]; exact hb⟩
        have h0 : m[i] = 0 := of_decide_eq_true h0
        rw [take_snoc hi, midP_snoc, esc, if_pos h0]
        rw [h0] at r2
        simpa using r2
      · refine hj _ _ _ ⟨v1, rfl, rfl, ?_, by rw [l1.base]; exact hb⟩
        have h0 : ¬ m[i] = 0 := of_decide_eq_false h0
        rw [take_snoc hi, midP_snoc, esc, if_neg h0]
        simpa using r1
    · rintro v' d' h' ⟨row', rfl, rfl, hr', hb'⟩
      simp only [asI_int, fI_eq]
      rw [add_one i (by omega)]
      exact hs (m.length - (i + 1)) _ _ _ (by omega) ⟨i + 1, row', rfl, rfl, hi, rfl, hr', hb'⟩
  · have hi : m.length ≤ i := by
      have := ltI_false.1 hc
      have h2 : (m.length : Int) ≤ (i : Int) := this
      omega
    refine ap_lit (m := [0, 1]) hr (by omega) (Nat.zero_le _) (by simp [mostRoom]; omega) fun v1 h1 r1 l1 => ?_
    rw [r1.str]
    refine hk _ ?_
    rw [List.take_of_length_le hi, mid]
/-! ## a number's bytes -/
theorem t69 {x : Nat} (hx : x < 9223372036854775808) {h : H} (hb : h.base = 0) {K : AV → H → Prop} (hk : ∀ v h', Row true 5 0 h' v (uv x) → K v h') : s69G J0 .nils (Int.ofNat x) h K := by
  unfold s69G
  rw [ap_nils]
  refine lp_rule (fun n v d h => ∃ y row done, v = (.int .u64 (Int.ofNat y), row, ()) ∧ d = [] ∧ done ++ uv y = uv x ∧ y < 128 ^ (n + 1) ∧ done.length + n ≤ 9 ∧ Row true 5 0 h row done ∧ h.base = 0) ?_ (n := 9) (by unfold fuel; omega) ⟨x, .nils, [], rfl, rfl, rfl, Nat.lt_trans hx (by decide), by simp, Row.nil _ _ _ _, hb⟩
  rintro n self v d h ⟨y, row, done, rfl, rfl, hd, hy, hn, hr, hb⟩ hs
  simp only [asI_int, fI_eq, fB_eq]
  refine br_intro (fun hc => ?_) (fun hc => ?_)
  · have hy1 : 128 ≤ y := by
      have := ltI_false.1 (not_true.1 hc)
      have h2 : (128 : Int) ≤ (y : Int) := this
      omega
    rw [or128_bI]
    refine ap_lit (m := [UInt8.ofNat (y % 128 + 128)]) hr (by omega) (Nat.zero_le _) (by simp [mostRoom]; omega) fun v1 h1 r1 l1 => ?_
    obtain ⟨n, rfl⟩ : ∃ n', n = n' + 1 := by
      cases n with
      | zero => simp at hy; omega
      | succ n => exact ⟨n, rfl⟩
    have e7 : shrF (Int.ofNat y) (nmin 7 (IntKind.bits .u64)) = Int.ofNat (y / 128) := by
      show Int.ofNat (y >>> 7) = _
      rw [Nat.shiftRight_eq_div_pow]
    rw [e7]
    refine hs n _ _ _ (by omega) ⟨y / 128, v1, done ++ [UInt8.ofNat (y % 128 + 128)], rfl, rfl, ?_, ?_, by simp; omega, r1, by rw [l1.base]; exact hb⟩
    · rw [← hd, uv_big hy1]; simp
    · rw [Nat.div_lt_iff_lt_mul (by decide)]; rw [Nat.pow_succ] at hy; exact hy
  · have hy1 : y < 128 := by
      have := ltI_true.1 (not_false'.1 hc)
      have h2 : (y : Int) < (128 : Int) := this
      omega
    rw [ofNat_bI]
    refine ap_lit (m := [UInt8.ofNat y]) hr (by omega) (Nat.zero_le _) (by simp [mostRoom]; omega) fun v1 h1 r1 l1 => ?_
    refine hk _ _ ?_
    rw [← hd, uv_small hy1]; exact r1
theorem t41 {x : Nat} (hx : x < 9223372036854775808) (hk : ∀ r, r = Str.of (uv x) → K r) : s41G J0 (s69G J0) (Int.ofNat x) H0 fun r _ => K r := by
  unfold s41G
  rw [fI_eq, wrapF_nat (kk := .u64) (m := x) (by show x < 18446744073709551616; omega)]
  refine t69 hx rfl fun v h' r => ?_
  rw [r.str]; exact hk _ rfl
theorem t70 : ∀ (f n x : Nat), n < f → x < 128 ^ (n + 1) → x < 18446744073709551616 → ∀ {h : H} {K : AV → H → Prop}, h.base ≤ h.next → (∀ v h', Row true 5 h.next h' v (uv x) → Low h.next h h' → K v h') → rec70 f (Int.ofNat x) h K
  | 0, n, x, hf, _, _, _, _, _, _ => absurd hf (Nat.not_lt_zero _)
  | f + 1, n, x, hf, hx, hx2, h, K, hb, hk => by
    show s70G J0 (rec70 f) (Int.ofNat x) h K
    unfold s70G
    simp only [fB_eq, fI_eq]
    refine br_intro (fun hc => ?_) (fun hc => ?_)
    · have hy1 : x < 128 := by
        have := ltI_true.1 hc
        have h2 : (x : Int) < (128 : Int) := this
        omega
      rw [ofNat_bI]
      show op' (asRow true 5 ([UInt8.ofNat x].map fun c => AV.int .u8 (bI c))) _
      rw [asRow_map, op'_some, pushK_is]
      refine hk _ _ ?_ (Low.push _ _ _ (Nat.le_refl _))
      rw [uv_small hy1]; exact Row.push false true (Nat.le_refl _)
    · have hy1 : 128 ≤ x := by
        have := ltI_false.1 hc
        have h2 : (128 : Int) ≤ (x : Int) := this
        omega
      obtain ⟨n, rfl⟩ : ∃ n', n = n' + 1 := by
        cases n with
        | zero => simp at hx; omega
        | succ n => exact ⟨n, rfl⟩
      refine ck_intro rfl ?_
      have e1 : wrapF .u8 (Int.add (wrapF .u8 (Int.tmod (Int.ofNat x) (Int.ofNat 128))) (Int.ofNat 128)) = bI (UInt8.ofNat (x % 128 + 128)) := by
        have h1 : Int.tmod (Int.ofNat x) (Int.ofNat 128) = Int.ofNat (x % 128) := rfl
        rw [h1, wrapF_nat (kk := .u8) (m := x % 128) (by show x % 128 < 256; omega)]
        show wrapF .u8 (Int.ofNat (x % 128 + 128)) = _
        rw [ofNat_bI]
      rw [e1]
      show op' (asRow true 5 ([UInt8.ofNat (x % 128 + 128)].map fun c => AV.int .u8 (bI c))) _
      rw [asRow_map, op'_some, pushK_is]
      refine ck_intro rfl ?_
      have e2 : wrapF .u64 (Int.tdiv (Int.ofNat x) (Int.ofNat 128)) = Int.ofNat (x / 128) := by
        have h1 : Int.tdiv (Int.ofNat x) (Int.ofNat 128) = Int.ofNat (x / 128) := rfl
        rw [h1]; exact wrapF_nat (kk := .u64) (m := x / 128) (by show x / 128 < 18446744073709551616; omega)
      rw [e2]
      have hx3 : x / 128 < 128 ^ (n + 1) := by rw [Nat.div_lt_iff_lt_mul (by decide)]; rw [Nat.pow_succ] at hx; exact hx
      have hlen := uv_len 9 (x / 128) (Nat.lt_trans (m := 18446744073709551616) (by omega) (by decide))
      refine t70 f n (x / 128) (by omega) hx3 (by omega) (by rw [pushed_base, pushed_next]; omega) fun v h' r l => ?_
      have l0 := Low.push h.next h (.bytes 5 0 false (Str.of [UInt8.ofNat (x % 128 + 128)])) (Nat.le_refl _)
      have r0 : Row true 5 h.next h' (.slice h.next 0 1 1 1 true) [UInt8.ofNat (x % 128 + 128)] := (Row.push false true (Nat.le_refl _)).low l (Nat.le_refl _)
      refine apB_row r0 (by rw [l.base, pushed_base]; exact hb) (by have := l.next; rw [pushed_next] at this; omega) (fun f => srcB_row r f) (by simp [mostRoom]; omega) fun v2 h2 r2 l2 => hk _ _ ?_ ((l0.trans (l.down (by rw [pushed_next]; omega))).trans l2)
      rw [uv_big hy1]; exact r2
end
end Go.Proofs.Ytlbigopkplckaaa
