/- Numbers read from bytes, in the document's words. No condition. -/
import Derived.Test.YtlbigopkplckaaaRdI
namespace Go.Proofs.Ytlbigopkplckaaa
open Go Go.Am
set_option linter.all false
set_option maxRecDepth 100000
def valB : List UInt8 → Nat
  | [] => 0
  | c :: l => valB l * 128 + c.toNat % 128
theorem valB_drop : ∀ (l : List UInt8) (k : Nat), valB (l.drop k) ≤ valB l
  | [], k => by simp [valB]
  | c :: l, 0 => Nat.le_refl _
  | c :: l, k + 1 => by
    have h1 := valB_drop l k
    have e : valB (c :: l) = valB l * 128 + c.toNat % 128 := rfl
    rw [e, List.drop_succ_cons]; omega
theorem valB_uv : ∀ v, valB (uv v) = v := by
  intro v
  induction v using Nat.strongRecOn with
  | ind v ih =>
    by_cases h : v < 128
    · rw [uv_small h]
      show 0 * 128 + (UInt8.ofNat v).toNat % 128 = v
      rw [toNat_ofNat (by omega)]; omega
    · rw [uv_big (by omega)]
      show valB (uv (v / 128)) * 128 + (UInt8.ofNat (v % 128 + 128)).toNat % 128 = v
      rw [ih _ (by omega), toNat_ofNat (by omega)]; omega
theorem tmod128 (c : UInt8) : Int.tmod (bI c) (Int.ofNat 128) = Int.ofNat (c.toNat % 128) := rfl
section
variable {KR : Int → Int → Int → H → Prop}
theorem t86 {c70 : Int → H → (AV → H → Prop) → Prop} (h70 : ∀ (x : Nat), x < 18446744073709551616 → ∀ {h : H} {K : AV → H → Prop}, h.base ≤ h.next → (∀ v h', Row true 5 h.next h' v (uv x) → Low h.next h h' → K v h') → c70 (Int.ofNat x) h K)
    {g : Bool} {n0 : Nat} {h : H} {a : AV} {b : List UInt8} (r : Row g 5 n0 h a b) (hl : b.length ≤ 140737488351232) (hb : h.base ≤ h.next) (hk : ∀ x m e h', ReP b x m e → Low h.next h h' → KR x m e h') : s86G J0 c70 a h KR := by
  unfold s86G
  refine lp_rule (fun c w d h' => ∃ n, w = (a, .int .i64 (Int.ofNat n), ()) ∧ d = [] ∧ Low h.next h h' ∧ 1 ≤ n ∧ n ≤ 11 ∧ c = 11 - n ∧ ∀ v tail, v < 9223372036854775808 → b = uv v ++ tail → n ≤ (uv v).length) ?_ (n := 10) (by unfold fuel; omega) ⟨1, rfl, rfl, Low.refl _ _, Nat.le_refl _, by decide, rfl, fun v tail _ _ => List.length_pos_iff.2 (uv_ne v)⟩
  rintro c self w d h' ⟨n, rfl, rfl, hL, hn1, hn11, rfl, hfit⟩ hs
  dsimp only
  have r' := r.low hL (Nat.le_refl _)
  rw [r'.len, asI_int, fB_eq]
  have fail : (∀ v tail, v < 9223372036854775808 → b = uv v ++ tail → False) → KR (Int.ofNat 0) (Int.ofNat 0) (Int.ofNat 5) h' := fun hf => hk _ _ _ _ ⟨fun v tail h1 h2 => (hf v tail h1 h2).elim, fun h => by cases h⟩ hL
  by_cases hc : n ≤ b.length
  rotate_left
  · rw [lt_ltI (by omega), Bool.not_true]
    simp only [↓jn_is, ↓br_t, ↓br_f, ↓pickB_t, ↓pickB_f, ↓asB_bool, ↓asI_int]
    refine fail fun v tail h1 h2 => ?_
    have := hfit v tail h1 h2
    have := congrArg List.length h2
    rw [List.length_append] at this
    omega
  rw [ge_ltI hc, Bool.not_false]
  simp only [↓jn_is, ↓br_t, ↓br_f, ↓pickB_t, ↓pickB_f, ↓asB_bool, ↓asI_int]
  rw [fB_eq]
  by_cases h10 : n ≤ 10
  rotate_left
  · rw [lt_ltI (by omega), Bool.not_true]
    simp only [↓jn_is, ↓br_t, ↓br_f, ↓pickB_t, ↓pickB_f, ↓asB_bool, ↓asI_int]
    refine fail fun v tail h1 h2 => ?_
    have := hfit v tail h1 h2
    have := uv_len 9 v (Nat.lt_trans h1 (by decide))
    omega
  rw [ge_ltI h10, Bool.not_false]
  simp only [↓jn_is, ↓br_t, ↓br_f, ↓pickB_t, ↓pickB_f, ↓asB_bool, ↓asI_int]
  rw [fI_eq]
  have w1 : ∀ k : Nat, k ≤ 11 → wrapF .i64 (Int.sub (Int.ofNat k) (Int.ofNat 1)) = Int.sub (Int.ofNat k) (Int.ofNat 1) := fun k hk => by
    have e : Int.sub (Int.ofNat k) (Int.ofNat 1) = (k : Int) - 1 := rfl
    rw [e]; exact wrap_i64_in (by omega) (by omega)
  rw [w1 n hn11]
  -- the number that so many bytes tell
  refine lp_rule (fun c w d h'' => ∃ X, w = (a, .int .u64 (Int.ofNat X), .int .i64 (Int.ofNat n), .int .i64 (Int.sub (Int.ofNat c) (Int.ofNat 1)), ()) ∧ d = [] ∧ h'' = h' ∧ c ≤ n ∧ X < 18446744073709551616 ∧ ∀ v tail, v < 9223372036854775808 → b = uv v ++ tail → (uv v).length = n → X = valB ((uv v).drop c)) ?_ (n := n) (by unfold fuel; omega)
    ⟨0, rfl, rfl, rfl, Nat.le_refl _, by decide, fun v tail _ _ e => by rw [List.drop_of_length_le (by omega)]; rfl⟩
  rintro c self2 w d h'' ⟨X, rfl, rfl, rfl, hcn, hX, hfitX⟩ hs2
  dsimp only
  rw [asI_int, fB_eq]
  cases c with
  | succ c =>
    have e1 : Int.sub (Int.ofNat (c + 1)) (Int.ofNat 1) = Int.ofNat c := by rw [sub_nat (by omega)]; rfl
    have cc : ltI (Int.ofNat c) (Int.ofNat 0) = false := ge_ltI (Nat.zero_le _)
    obtain ⟨p, p1, p2⟩ := Row.at r' (i := c) (by omega)
    rw [e1, cc, Bool.not_false, br_t, asI_int, fI_eq, p1, p2]
    refine ck_intro rfl ?_
    rw [fI_eq, tmod128, fI_eq, fI_eq, asI_int, fI_eq]
    have cm : wrapF .u64 (Int.ofNat ((b[c]'(by omega)).toNat % 128)) = Int.ofNat ((b[c]'(by omega)).toNat % 128) := wrapF_nat (kk := .u64) (by show (b[c]'(by omega)).toNat % 128 < 18446744073709551616; omega)
    rw [cm, w1 c (by omega)]
    obtain ⟨Z, hZ1, hZ2⟩ := wrap64_ex (Int.mul (Int.ofNat X) (Int.ofNat 128))
    rw [hZ1]
    obtain ⟨Y, hY1, hY2⟩ := wrap64_ex (Int.add (Int.ofNat Z) (Int.ofNat ((b[c]'(by omega)).toNat % 128)))
    rw [hY1]
    refine hs2 c _ _ _ (by omega) ⟨Y, rfl, rfl, rfl, by omega, hY2, fun v tail h1 h2 h3 => ?_⟩
    have hXv := hfitX v tail h1 h2 h3
    have hb : b[c]'(by omega) = (uv v)[c]'(by omega) := by simp only [h2]; rw [List.getElem_append_left]
    have hd : (uv v).drop c = (uv v)[c]'(by omega) :: (uv v).drop (c + 1) := List.drop_eq_getElem_cons (by omega)
    have hval : valB ((uv v).drop c) = X * 128 + ((uv v)[c]'(by omega)).toNat % 128 := by rw [hd, hXv]; rfl
    have hle := valB_drop (uv v) c
    rw [valB_uv] at hle
    have hZ : Z = X * 128 := by
      have e : wrapF .u64 (Int.mul (Int.ofNat X) (Int.ofNat 128)) = Int.ofNat (X * 128) := wrapF_nat (kk := .u64) (m := X * 128) (by show X * 128 < 18446744073709551616; omega)
      rw [e] at hZ1; injection hZ1 with hZ1; exact hZ1.symm
    have hY : Y = Z + (b[c]'(by omega)).toNat % 128 := by
      have e : wrapF .u64 (Int.add (Int.ofNat Z) (Int.ofNat ((b[c]'(by omega)).toNat % 128))) = Int.ofNat (Z + (b[c]'(by omega)).toNat % 128) := wrapF_nat (kk := .u64) (m := Z + (b[c]'(by omega)).toNat % 128) (by rw [hb, hZ]; show X * 128 + ((uv v)[c]'(by omega)).toNat % 128 < 18446744073709551616; omega)
      rw [e] at hY1; injection hY1 with hY1; exact hY1.symm
    rw [hY, hZ, hb, hval]
  | zero =>
    have cc : ltI (Int.sub (Int.ofNat 0) (Int.ofNat 1)) (Int.ofNat 0) = true := rfl
    rw [cc, Bool.not_true, br_f, asI_int]
    clear hs2 self2
    refine h70 X hX (by have := hL.next; rw [hL.base]; omega) fun y h3 ry l3 => ?_
    have r3 := r'.low l3 (Nat.le_refl _)
    have L3 := hL.trans (l3.down hL.next)
    rw [ry.len, asI_int, fB_eq]
    have heq : eqI (Int.ofNat (uv X).length) (Int.ofNat n) = decide ((uv X).length = n) := by
      by_cases he : (uv X).length = n
      · rw [he, decide_eq_true rfl]; exact eqI_true.2 rfl
      · rw [decide_eq_false he, eqI_false]; intro h; have h : ((uv X).length : Int) = (n : Int) := h; omega
    rw [heq]
    refine lp_rule (fun c w d h'' => ∃ i s, w = (a, .int .u64 (Int.ofNat X), .int .i64 (Int.ofNat n), y, .bool s, .int .i64 (Int.ofNat i), ()) ∧ d = [] ∧ h'' = h3 ∧ i ≤ n ∧ c = n - i ∧ (s = true → (uv X).length = n ∧ ∀ (i' : Nat) (q1 : i' < (uv X).length) (q2 : i' < b.length), i' < i → (uv X)[i'] = b[i']) ∧
        (s = false → ∀ v tail, v < 9223372036854775808 → b = uv v ++ tail → (uv v).length = n → False)) ?_ (n := n) (by unfold fuel; omega)
      ⟨0, decide ((uv X).length = n), rfl, rfl, rfl, Nat.zero_le _, rfl, fun h => ⟨of_decide_eq_true h, fun i' _ _ h => absurd h (Nat.not_lt_zero _)⟩, fun h v tail h1 h2 h4 => of_decide_eq_false h (by
        have := hfitX v tail h1 h2 h4
        rw [List.drop_zero, valB_uv] at this
        rw [this]; exact h4)⟩
    rintro c self3 w d h'' ⟨i, s, rfl, rfl, rfl, hin, rfl, ht, hf⟩ hs3
    dsimp only
    rw [asI_int, asI_int, fB_eq]
    have out : (s = true → i = n) → asB (AV.bool s) fun b58 => br b58 (leaveK (gam J0 [(70, w70 c70)]) [] h'' fun h59 => asI .u64 (AV.int .u64 (Int.ofNat X)) fun x60 => asI .i64 (AV.int .i64 (Int.ofNat n)) fun x61 => KR x60 x61 (Int.ofNat 0) h59)
        (asI .i64 (AV.int .i64 (Int.ofNat n)) fun x62 => fI (wrapF .i64 (Int.add x62 (Int.ofNat 1))) fun x63 => self (a, (AV.int .i64 x63), ()) [] h'') := fun hsi => by
      rw [asB_bool]
      cases s with
      | true =>
        rw [br_t]
        have hi := hsi rfl
        obtain ⟨t1, t2⟩ := ht rfl
        have hpre : uv X = b.take n := by
          apply List.ext_getElem
          · rw [List.length_take]; omega
          · intro j q1 q2
            rw [List.getElem_take]
            exact t2 j q1 (by omega) (by omega)
        show KR (Int.ofNat X) (Int.ofNat n) (Int.ofNat 0) h''
        refine hk _ _ _ _ ⟨fun v tail h1 h2 => ?_, fun _ => ⟨X, n, rfl, hX, rfl, hc⟩⟩ L3
        have e : uv X ++ b.drop n = uv v ++ tail := by rw [hpre, List.take_append_drop]; exact h2
        obtain ⟨rfl, _⟩ := uv_pre e
        exact ⟨rfl, by rw [t1], rfl⟩
      | false =>
        rw [br_f, asI_int, fI_eq, add_one n (by omega)]
        refine hs _ _ _ _ (by omega) ⟨n + 1, rfl, rfl, L3, by omega, by omega, rfl, fun v tail h1 h2 => ?_⟩
        have q1 := hfit v tail h1 h2
        have q2 := hf rfl v tail h1 h2
        rcases Nat.lt_or_ge n (uv v).length with q3 | q3
        · exact q3
        · exact (q2 (by omega)).elim
    by_cases hci : i < n
    · rw [lt_ltI hci]
      simp only [↓jn_is, ↓br_t, ↓br_f, ↓pickB_t, ↓pickB_f]
      cases s with
      | false =>
        simp only [↓asB_bool, ↓br_t, ↓br_f]
        have := out (fun h => by cases h)
        simp only [↓asB_bool, ↓br_t, ↓br_f] at this
        exact this
      | true =>
        simp only [↓asB_bool, ↓br_t, ↓br_f]
        obtain ⟨t1, t2⟩ := ht rfl
        obtain ⟨p, p1, p2⟩ := Row.at ry (i := i) (by omega)
        obtain ⟨p', p3, p4⟩ := Row.at r3 (i := i) (by omega)
        rw [p1, p2, p3, p4, fB_eq, asI_int, fI_eq, add_one i (by omega)]
        have e := eqI_bc ((uv X)[i]'(by omega)) (b[i]'(by omega))
        have e : eqI (bI ((uv X)[i]'(by omega))) (bI (b[i]'(by omega))) = decide ((uv X)[i]'(by omega) = b[i]'(by omega)) := e
        rw [e]
        refine hs3 _ _ _ _ (by omega) ⟨i + 1, _, rfl, rfl, rfl, hci, rfl, fun h => ⟨t1, fun i' q1 q2 q3 => ?_⟩, fun h v tail h1 h2 h4 => ?_⟩
        · by_cases q4 : i' < i
          · exact t2 i' q1 q2 q4
          · obtain rfl : i' = i := by omega
            exact of_decide_eq_true h
        · apply of_decide_eq_false h
          have hXv := hfitX v tail h1 h2 h4
          rw [List.drop_zero, valB_uv] at hXv
          subst hXv
          simp only [h2]; rw [List.getElem_append_left]
    · rw [ge_ltI (by omega)]
      simp only [↓jn_is, ↓br_t, ↓br_f, ↓pickB_t, ↓pickB_f, ↓asB_bool]
      have := out (fun _ => by omega)
      exact this
theorem t77 {c86 : AV → H → (Int → Int → Int → H → Prop) → Prop} {a : AV} {b : List UInt8} {h : H} {mo : Nat} (hmo : mo < 9223372036854775808) (h86 : ∀ {K : Int → Int → Int → H → Prop}, (∀ x m e h', ReP b x m e → Low h.next h h' → K x m e h') → c86 a h K) (hk : ∀ x m e h', SmP b mo x m e → Low h.next h h' → KR x m e h') : s77G J0 c86 a (Int.ofNat mo) h KR := by
  unfold s77G
  refine h86 fun x m e h' hR l => ?_
  exact small_ok hmo hR fun x m e hS => hk x m e h' hS l
variable {KI : Int → H → Prop}
theorem t60 {c77 : AV → Int → H → (Int → Int → Int → H → Prop) → Prop} {T mo : Nat} {rest : List UInt8} {bad : Bool}
    (h77 : ∀ {g : Bool} {n : Nat} {h : H} {a : AV} {b : List UInt8}, Row g 5 n h a b → b.length ≤ 140737488351232 → h.base ≤ h.next → ∀ {K : Int → Int → Int → H → Prop}, (∀ x m e h', SmP b mo x m e → Low h.next h h' → K x m e h') → c77 a (Int.ofNat mo) h K)
    (hl : rest.length ≤ 140737488351232) (hk : ∀ x rest' bad' h1, NumP rest bad mo x rest' bad' → h1.get 0 = .cells false T (rdC rest' bad') → KI x h1) : s60G J0 c77 (.ptr 0 0) (Int.ofNat mo) (rdH T rest bad) KI := by
  unfold s60G
  rw [okNil_ptr, faK_ptr, ldS_at (rdH_get T rest bad) (x := Str.of rest) rfl]
  refine push_out _ _ _ fun h4 lo g4 n4 => ?_
  have hn : (rdH T rest bad).next = 1 := rfl
  have r : Row true 5 1 h4 (.slice 1 0 rest.length rest.length 1 false) rest := .inr ⟨1, false, true, rfl, Nat.le_refl _, by omega, g4, fun h => by cases h⟩
  have g0 : h4.get 0 = .cells false T (rdC rest bad) := (lo.get 0 Nat.one_pos).trans (rdH_get T rest bad)
  refine h77 r hl (by rw [lo.base]; exact Nat.zero_le _) fun x m e h5 hS l5 => ?_
  exact num_tail ((l5.get 0 (by omega)).trans g0) (by rw [l5.base, lo.base]; rfl) (by have := l5.next; omega) hS hk
end
end Go.Proofs.Ytlbigopkplckaaa
