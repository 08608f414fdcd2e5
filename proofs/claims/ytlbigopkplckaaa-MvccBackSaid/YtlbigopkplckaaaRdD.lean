/- The readers of the layer of versions: stamps in the document's words; what readers read of them; marks. No condition. -/
import Derived.Test.YtlbigopkplckaaaRdC
namespace Go.Proofs.Ytlbigopkplckaaa
open Go Go.Am
set_option linter.all false
set_option maxRecDepth 100000
theorem mul256 {x : Nat} (h : x < 2 ^ 56) : wrapF .u64 (Int.mul (Int.ofNat x) (Int.ofNat 256)) = Int.ofNat (x * 256) := wrapF_nat (kk := .u64) (m := x * 256) (by show x * 256 < 18446744073709551616; omega)
theorem add_u64 {x b : Nat} (h : x + b < 18446744073709551616) : wrapF .u64 (Int.add (Int.ofNat x) (Int.ofNat b)) = Int.ofNat (x + b) := wrapF_nat (kk := .u64) (m := x + b) (by show x + b < 18446744073709551616; exact h)
theorem ubk64 {w : Int} (h0 : 0 ≤ w) (h1 : w ≤ 1099511627776) : wrapF .i64 (wrapF .u64 (Int.sub (Int.ofNat 9223372036854775807) (Int.ofNat (9223372036854775807 - w).toNat))) = w := by
  have e : Int.sub (Int.ofNat 9223372036854775807) (Int.ofNat (9223372036854775807 - w).toNat) = Int.ofNat w.toNat := by
    show (9223372036854775807 : Int) - ((9223372036854775807 - w).toNat : Int) = (w.toNat : Int); omega
  rw [e, wrapF_nat (kk := .u64) (m := w.toNat) (by show w.toNat < 18446744073709551616; omega), ← toNat_of h0, wrap_i64_in (by omega) (by omega)]
theorem ubk32 {w : Int} (h0 : 0 ≤ w) (h1 : w ≤ 1048576) : wrapF .i32 (wrapF .u64 (Int.sub (Int.ofNat 2147483647) (Int.ofNat (2147483647 - w).toNat))) = w := by
  have e : Int.sub (Int.ofNat 2147483647) (Int.ofNat (2147483647 - w).toNat) = Int.ofNat w.toNat := by
    show (2147483647 : Int) - ((2147483647 - w).toNat : Int) = (w.toNat : Int); omega
  rw [e, wrapF_nat (kk := .u64) (m := w.toNat) (by show w.toNat < 18446744073709551616; omega), ← toNat_of h0, wrap_i32_in (by omega) (by omega)]
section
variable {KS : AV → Int → Prop}
theorem t56 {s : List UInt8} (hk : ∀ w l t e, UnsP s w l t e → KS (stAV w l t) e) : s56G J0 (Str.of s) H0 fun r e _ => KS r e := by
  unfold s56G
  rw [pushK_is, fB_eq]
  by_cases h16 : s.length = 16
  · have c : eqI (Int.ofNat (Str.of s).len) (Int.ofNat 16) = true := eqI_true.2 (by show (s.length : Int) = 16; omega)
    rw [c, Bool.not_true, br_f]
    refine lp_rule (fun n v d h' => ∃ i, v = (.str (Str.of s), .ptr 0 0, .int .u64 (Int.ofNat (Str.num (s.take i))), .int .u64 (Int.ofNat 0), .int .u64 (Int.ofNat 0), .int .i64 (Int.ofNat i), ()) ∧ d = [] ∧ h' = pushed H0 (.cells false 28 [.int .i64 0, .int .i32 0, .int .i32 0]) ∧ i ≤ 8 ∧ n = 8 - i) ?_ (n := 8) (by unfold fuel; omega) ⟨0, rfl, rfl, rfl, Nat.zero_le _, rfl⟩
    rintro n self v d h' ⟨i, rfl, rfl, rfl, hi, rfl⟩ hs
    dsimp only
    rw [asI_int, fB_eq]
    by_cases hc : i < 8
    · rw [lt_ltI hc, br_t, asI_int, fI_eq, ixs_of (by omega), fI_eq, bI_u64, fI_eq, asI_int, fI_eq]
      have h1 : Str.num (s.take i) < 2 ^ 56 := num_small (n := 7) (by rw [List.length_take]; omega)
      have hb := (s[i]'(by omega)).toNat_lt
      rw [mul256 h1, add_u64 (by omega), ← num_take (by omega), add_one i (by omega)]
      exact hs _ _ _ _ (by omega) ⟨i + 1, rfl, rfl, rfl, hc, rfl⟩
    · have e8 : i = 8 := by omega
      subst e8
      rw [ge_ltI (by omega), br_f]
      clear hs self
      refine lp_rule (fun n v d h' => ∃ j, v = (.str (Str.of s), .ptr 0 0, .int .u64 (Int.ofNat (Str.num (s.take 8))), .int .u64 (Int.ofNat (Str.num ((s.drop 8).take j))), .int .u64 (Int.ofNat (Str.num ((s.drop 12).take j))), .int .i64 (Int.ofNat (8 + j)), ()) ∧ d = [] ∧ h' = pushed H0 (.cells false 28 [.int .i64 0, .int .i32 0, .int .i32 0]) ∧ j ≤ 4 ∧ n = 4 - j) ?_ (n := 4) (by unfold fuel; omega) ⟨0, rfl, rfl, rfl, Nat.zero_le _, rfl⟩
      rintro n self v d h' ⟨j, rfl, rfl, rfl, hj, rfl⟩ hs
      dsimp only
      rw [asI_int, fB_eq]
      by_cases hcj : j < 4
      · rw [lt_ltI (by omega), br_t, asI_int, fI_eq, ixs_of (by omega), fI_eq, bI_u64, fI_eq, asI_int, fI_eq, asI_int, fI_eq]
        have e4 : wrapF .i64 (Int.add (Int.ofNat (8 + j)) (Int.ofNat 4)) = Int.ofNat (12 + j) := by
          have := wrapF_nat (kk := .i64) (m := 8 + j + 4) (by show 8 + j + 4 < 9223372036854775808; omega)
          rw [show 12 + j = 8 + j + 4 by omega]; exact this
        rw [e4, ixs_of (by omega), fI_eq, bI_u64, fI_eq, asI_int, fI_eq]
        have h1 : Str.num ((s.drop 8).take j) < 2 ^ 56 := num_small (n := 7) (by rw [List.length_take]; omega)
        have h2 : Str.num ((s.drop 12).take j) < 2 ^ 56 := num_small (n := 7) (by rw [List.length_take]; omega)
        have hb1 := (s[8 + j]'(by omega)).toNat_lt
        have hb2 := (s[12 + j]'(by omega)).toNat_lt
        have q1 := num_take (l := s.drop 8) (i := j) (by rw [List.length_drop]; omega)
        have q2 := num_take (l := s.drop 12) (i := j) (by rw [List.length_drop]; omega)
        rw [List.getElem_drop] at q1 q2
        rw [mul256 h1, mul256 h2, add_u64 (by omega), add_u64 (by omega), ← q1, ← q2, add_one (8 + j) (by omega)]
        exact hs _ _ _ _ (by omega) ⟨j + 1, rfl, rfl, rfl, hcj, rfl⟩
      · have e4 : j = 4 := by omega
        subst e4
        rw [ge_ltI (by omega), br_f]
        have t1 : (s.drop 8).take 4 = (s.take 12).drop 8 := by rw [List.drop_take]
        have t2 : (s.drop 12).take 4 = s.drop 12 := List.take_of_length_le (by rw [List.length_drop]; omega)
        rw [t1, t2]
        clear hs self
        simp only [fI_eq]
        by_cases hE : ∃ w l t, okS w l t = true ∧ s = stB w l t
        · obtain ⟨w, l, t, ho, rfl⟩ := hE
          obtain ⟨a1, a2, a3, a4, a5, a6⟩ := okS_iff ho
          have f1 : ltI (Int.ofNat 9223372036854775807) (Int.ofNat (9223372036854775807 - w).toNat) = false := ge_ltI (by omega)
          have f2 : ltI (Int.ofNat 2147483647) (Int.ofNat (2147483647 - l).toNat) = false := ge_ltI (by omega)
          have f3 : ltI (Int.ofNat 2147483647) (Int.ofNat (2147483647 - t).toNat) = false := ge_ltI (by omega)
          have ho' := ho
          simp only [okS, Bool.and_eq_true, Bool.not_eq_true'] at ho'
          obtain ⟨_, g2, _, g4, _, g6⟩ := ho'
          rw [stB_w ho, stB_l ho, stB_t ho]
          conv => whnf
          refine rec_false f1 ?_
          conv => whnf
          refine rec_false f2 ?_
          conv => whnf
          refine rec_false f3 ?_
          conv => whnf
          rw [ubk64 a1 a2]
          refine rec_false g2 ?_
          conv => whnf
          rw [ubk32 a3 a4]
          refine rec_false g4 ?_
          conv => whnf
          rw [ubk32 a5 a6]
          refine rec_false g6 ?_
          conv => whnf
          have hk2 := hk w l t (Int.ofNat 0) fun w0 l0 t0 h1 h2 => by
            obtain ⟨e1, e2, e3⟩ := stB_inj ho h1 h2
            exact ⟨e1, e2, e3, rfl⟩
          first | exact hk2 | (rw [ubk64 a1 a2, ubk32 a3 a4, ubk32 a5 a6]; exact hk2)
        · have any : ∀ w l t e, KS (stAV w l t) e := fun w l t e => hk w l t e fun w0 l0 t0 h1 h2 => (hE ⟨w0, l0, t0, h1, h2⟩).elim
          repeat' ((conv => whnf); first | exact any _ _ _ _ | refine rec_intro (fun _ => ?_) (fun _ => ?_))
  · have c : eqI (Int.ofNat (Str.of s).len) (Int.ofNat 16) = false := eqI_false.2 (by show ¬ (s.length : Int) = 16; omega)
    rw [c, Bool.not_false, br_t]
    conv => whnf
    refine hk 0 0 0 _ fun w0 l0 t0 h1 h2 => ?_
    exfalso; apply h16; rw [h2, stB_len]
end
/-! ## a reader's stamp -/
def StP (rest : List UInt8) (bad : Bool) (w l t : Int) (rest' : List UInt8) (bad' : Bool) : Prop := ∀ w0 l0 t0 tail, bad = false → okS w0 l0 t0 = true → rest = stB w0 l0 t0 ++ tail → w = w0 ∧ l = l0 ∧ t = t0 ∧ rest' = tail ∧ bad' = false
theorem byt_st {rest out rest' : List UInt8} {bad bad' : Bool} (h : BytP rest bad 16 out rest' bad') : rest'.length ≤ rest.length ∧ out.length ≤ 16 ∧ ∀ w0 l0 t0 tail, bad = false → rest = stB w0 l0 t0 ++ tail → out = stB w0 l0 t0 ∧ rest' = tail ∧ bad' = false := by
  rcases h with ⟨h1, h2, rfl, rfl, h5⟩ | ⟨h1, rfl, rfl, h4⟩
  · refine ⟨by rw [List.length_drop]; omega, by rw [List.length_take]; omega, fun w0 l0 t0 tail _ e => ?_⟩
    subst e
    have := stB_len w0 l0 t0
    exact ⟨by rw [List.take_append_of_le_length (by omega), List.take_of_length_le (by omega)], by rw [List.drop_append_of_le_length (by omega), List.drop_of_length_le (by omega)]; rfl, h5⟩
  · refine ⟨Nat.le_refl _, by simp, fun w0 l0 t0 tail hb e => ?_⟩
    exfalso
    subst e
    have := stB_len w0 l0 t0
    rcases h1 with h1 | h1
    · rw [hb] at h1; cases h1
    · rw [List.length_append] at h1; omega
section
variable {KA : AV → H → Prop}
theorem t33 {T : Nat} {rest : List UInt8} {bad : Bool} (hk : ∀ w l t rest' bad' h1, StP rest bad w l t rest' bad' → rest'.length ≤ rest.length → h1.get 0 = .cells false T (rdC rest' bad') → KA (stAV w l t) h1) : s33G J0 pByt pUns (.ptr 0 0) (rdH T rest bad) KA := by
  conv => whnf
  refine ⟨0, T, 16, rest, bad, rfl, rfl, ⟨Nat.le_refl _, rfl⟩, fun out r1 b1 hB => ?_⟩
  obtain ⟨q1, q2, q3⟩ := byt_st hB
  conv => whnf
  refine ⟨out, rfl, fun w l t e hU => ?_⟩
  conv => whnf
  refine rec_intro (fun hc => ?_) (fun hc => ?_)
  · conv => whnf
    refine hk w l t r1 true _ (fun w0 l0 t0 tail h1 h2 h3 => ?_) q1 rfl
    obtain ⟨e1, e2, e3⟩ := q3 w0 l0 t0 tail h1 h3
    obtain ⟨_, _, _, e7⟩ := hU w0 l0 t0 h2 e1
    rw [e7] at hc; cases hc
  · conv => whnf
    refine hk w l t r1 b1 _ (fun w0 l0 t0 tail h1 h2 h3 => ?_) q1 rfl
    obtain ⟨e1, e2, e3⟩ := q3 w0 l0 t0 tail h1 h3
    obtain ⟨e4, e5, e6, e7⟩ := hU w0 l0 t0 h2 e1
    exact ⟨e4, e5, e6, e2, e3⟩
theorem t61 {T : Nat} {rest : List UInt8} {bad : Bool} (hk : ∀ w l t rest' bad' h1, StP rest bad w l t rest' bad' → rest'.length ≤ rest.length → h1.get 0 = .cells false T (rdC rest' bad') → KA (stAV w l t) h1) : s61G J0 pUns pByt (.ptr 0 0) (rdH T rest bad) KA := by
  conv => whnf
  refine ⟨0, T, 16, rest, bad, rfl, rfl, ⟨Nat.le_refl _, rfl⟩, fun out r1 b1 hB => ?_⟩
  obtain ⟨q1, q2, q3⟩ := byt_st hB
  conv => whnf
  refine ⟨out, rfl, fun w l t e hU => ?_⟩
  conv => whnf
  refine rec_intro (fun hc => ?_) (fun hc => ?_)
  · conv => whnf
    refine hk w l t r1 true _ (fun w0 l0 t0 tail h1 h2 h3 => ?_) q1 rfl
    obtain ⟨e1, e2, e3⟩ := q3 w0 l0 t0 tail h1 h3
    obtain ⟨_, _, _, e7⟩ := hU w0 l0 t0 h2 e1
    rw [e7] at hc; cases hc
  · conv => whnf
    refine hk w l t r1 b1 _ (fun w0 l0 t0 tail h1 h2 h3 => ?_) q1 rfl
    obtain ⟨e1, e2, e3⟩ := q3 w0 l0 t0 tail h1 h3
    obtain ⟨e4, e5, e6, e7⟩ := hU w0 l0 t0 h2 e1
    exact ⟨e4, e5, e6, e2, e3⟩
noncomputable def pStR : AV → H → (AV → H → Prop) → Prop := fun a h k => ∃ (id T : Nat) (rest : List UInt8) (bad : Bool), a = .ptr id 0 ∧ RdAt h id T rest bad ∧ ∀ w l t rest' bad', StP rest bad w l t rest' bad' → rest'.length ≤ rest.length → k (stAV w l t) (putted h id (.cells false T (rdC rest' bad')))
noncomputable def pOf : AV → Str → H → (Str → H → Prop) → Prop := fun a kd h k => ∃ (id T : Nat) (c : UInt8) (rest : List UInt8) (bad : Bool), a = .ptr id 0 ∧ kd = ⟨1, c.toNat⟩ ∧ rest.length ≤ 140737488351232 ∧ RdAt h id T rest bad ∧
  ∀ out rest' bad', OfP c rest bad out rest' bad' → rest'.length ≤ rest.length → k (Str.of out) (putted h id (.cells false T (rdC rest' bad')))
/-! ## a reader's mark and value -/
def FlP (rest : List UInt8) (bad : Bool) (d : Bool) (out : List UInt8) (bad' : Bool) : Prop := ∀ d0 v0, bad = false → (d0 = true → v0 = []) → rest = flagB d0 v0 → d = d0 ∧ out = v0 ∧ bad' = false
noncomputable def pFlR : AV → H → (Bool → Str → H → Prop) → Prop := fun a h k => ∃ (id T : Nat) (rest : List UInt8) (bad : Bool), a = .ptr id 0 ∧ RdAt h id T rest bad ∧ ∀ d out rest' bad', FlP rest bad d out bad' → k d (Str.of out) (putted h id (.cells false T (rdC rest' bad')))
variable {KF : Bool → Str → H → Prop}
theorem t34 {T : Nat} {rest : List UInt8} {bad : Bool} (hk : ∀ d out rest' bad' h1, FlP rest bad d out bad' → h1.get 0 = .cells false T (rdC rest' bad') → KF d (Str.of out) h1) : s34G J0 pByt (.ptr 0 0) (rdH T rest bad) KF := by
  conv => whnf
  refine ⟨0, T, 1, rest, bad, rfl, rfl, ⟨Nat.le_refl _, rfl⟩, fun out r1 b1 hB => ?_⟩
  have hE := byt1 hB
  dsimp only
  rw [show ({ len := 1, val := 0 } : Str) = Str.of [0] from rfl, show ({ len := 1, val := 1 } : Str) = Str.of [1] from rfl, beq_lit, beq_lit]
  conv => whnf
  refine rec_intro (fun h0 => ?_) (fun h0 => ?_)
  · have h0 := of_decide_eq_true h0
    conv => whnf
    refine ⟨0, T, r1.length, r1, b1, rfl, rfl, ⟨Nat.le_refl _, rfl⟩, fun out2 r2 b2 hB2 => ?_⟩
    conv => whnf
    refine hk false out2 r2 b2 _ (fun d0 v0 g1 g2 g3 => ?_) rfl
    rcases hE with ⟨x, e1, e2, e3, e4⟩ | ⟨e1, e2, e3, e4⟩
    · rw [e3] at h0; injection h0 with h0 _; subst h0
      rw [g3] at e2
      rw [flag_end g2] at e2
      injection e2 with e5 e6
      rcases hB2 with ⟨_, _, e7, _, e8⟩ | ⟨e7, _, _, _⟩
      · rw [List.take_of_length_le (Nat.le_refl _)] at e7
        refine ⟨?_, by rw [e7, e6], e8⟩
        cases d0
        · rfl
        · exact absurd e5 (by decide)
      · rcases e7 with e7 | e7
        · rw [e4] at e7; cases e7
        · omega
    · rw [e2] at h0; cases h0
  · have h0 := of_decide_eq_false h0
    conv => whnf
    refine rec_intro (fun h1 => ?_) (fun h1 => ?_)
    · have h1 := of_decide_eq_true h1
      conv => whnf
      refine hk true [] r1 b1 _ (fun d0 v0 g1 g2 g3 => ?_) rfl
      rcases hE with ⟨x, e1, e2, e3, e4⟩ | ⟨e1, e2, e3, e4⟩
      · rw [e3] at h1; injection h1 with h1 _; subst h1
        rw [g3, flag_end g2] at e2
        injection e2 with e5 e6
        cases d0
        · exact absurd e5 (by decide)
        · exact ⟨rfl, (g2 rfl).symm, e4⟩
      · rw [e2] at h1; cases h1
    · have h1 := of_decide_eq_false h1
      conv => whnf
      refine hk false [] r1 true _ (fun d0 v0 g1 g2 g3 => ?_) rfl
      exfalso
      rcases hE with ⟨x, e1, e2, e3, e4⟩ | ⟨e1, e2, e3, e4⟩
      · rw [g3, flag_end g2] at e2
        injection e2 with e5 e6
        cases d0
        · apply h0; rw [e3, ← e5]; rfl
        · apply h1; rw [e3, ← e5]; rfl
      · rw [g3, flag_end g2] at e1
        rcases e1 with e1 | e1
        · rw [g1] at e1; cases e1
        · cases e1
end
end Go.Proofs.Ytlbigopkplckaaa
