/- Heap sort. No condition. -/
import Derived.Test.YtiejkbmobmgdkaaSoE
namespace Go.Am
open Go
set_option linter.all false
/-- parents from lo on, but for r, are greater than their children -/
def HpX (a lo hi r : Nat) (R : Nat → Nat) : Prop := ∀ p c, lo ≤ p → p ≠ r → (c = 2 * p + 1 ∨ c = 2 * p + 2) → c < hi → R (a + c) < R (a + p)
def HpB (a lo hi r : Nat) (R : Nat → Nat) : Prop := ∀ p c, lo ≤ p → (r = 2 * p + 1 ∨ r = 2 * p + 2) → (c = 2 * r + 1 ∨ c = 2 * r + 2) → c < hi → R (a + c) < R (a + p)
def Hp (a lo hi : Nat) (R : Nat → Nat) : Prop := ∀ p c, lo ≤ p → (c = 2 * p + 1 ∨ c = 2 * p + 2) → c < hi → R (a + c) < R (a + p)
theorem heap_step {a lo hi r ch : Nat} {R : Nat → Nat} (h1 : HpX a lo hi r R) (h2 : HpB a lo hi r R) (hr : lo ≤ r) (hc : ch = 2 * r + 1 ∨ ch = 2 * r + 2) (hch : ch < hi) (hm : ∀ c, (c = 2 * r + 1 ∨ c = 2 * r + 2) → c < hi → c ≠ ch → R (a + c) < R (a + ch)) (hl : R (a + r) < R (a + ch)) :
    HpX a lo hi ch (swp R (a + r) (a + ch)) ∧ HpB a lo hi ch (swp R (a + r) (a + ch)) := by
  have e : ∀ k, swp R (a + r) (a + ch) (a + k) = if k = ch then R (a + r) else if k = r then R (a + ch) else R (a + k) := fun k => by
    rw [swp_at]
    by_cases k1 : k = ch
    · rw [if_pos (by omega), if_pos k1]
    · rw [if_neg (by omega), if_neg k1]
      by_cases k2 : k = r
      · rw [if_pos (by omega), if_pos k2]
      · rw [if_neg (by omega), if_neg k2]
  refine ⟨fun p c q1 q2 q3 q4 => ?_, fun p c q1 q2 q3 q4 => ?_⟩
  · rw [e, e, if_neg q2]
    by_cases pr : p = r
    · rw [if_pos pr]
      subst pr
      by_cases cc : c = ch
      · rw [if_pos cc]; exact hl
      · rw [if_neg cc, if_neg (by omega)]; exact hm c q3 q4 cc
    · rw [if_neg pr, if_neg (by omega)]
      by_cases cr : c = r
      · subst cr; rw [if_pos rfl]; exact h2 p ch q1 q3 hc hch
      · rw [if_neg cr]; exact h1 p c q1 pr q3 q4
  · have pr : p = r := by omega
    subst pr
    rw [e, e, if_neg (by omega), if_neg (by omega), if_neg (by omega), if_pos rfl]
    exact h1 ch c (by omega) (by omega) q3 q4
theorem heap_max {a hi : Nat} {R : Nat → Nat} (h : Hp a 0 hi R) : ∀ c, 0 < c → c < hi → R (a + c) < R (a + 0) := by
  intro c
  induction c using Nat.strongRecOn with
  | ind c ih =>
    intro h1 h2
    have hp := h ((c - 1) / 2) c (Nat.zero_le _) (by omega) h2
    by_cases h0 : (c - 1) / 2 = 0
    · rw [h0] at hp; exact hp
    · exact Nat.lt_trans hp (ih ((c - 1) / 2) (by omega) (by omega) (by omega))
theorem wrap_small {x : Int} (h1 : -1000000000 ≤ x) (h2 : x ≤ 1000000000) : wrapF .i64 x = x := wrap_i64_in (by omega) (by omega)
theorem decI {i : Nat} (h : i < 1000000000) : wrapF .i64 (Int.sub (Int.ofNat i) (Int.ofNat 1)) = ((i : Nat) : Int) - 1 := by
  have e : Int.sub (Int.ofNat i) (Int.ofNat 1) = ((i : Nat) : Int) - 1 := rfl
  rw [e]; exact wrap_small (by omega) (by omega)
end Go.Am
namespace Go.Proofs.Ytiejkbmobmgdkaa
open Go Go.Am
set_option linter.all false
set_option maxRecDepth 100000
theorem q69 {S : Nat → Str} {b n cap : Nat} {ex : Bool} {h0 h : H} {R : Nat → Nat} {a lo hi : Nat} {k : H → Prop} (os : OrdS S n) (hn : n < 1000000) (r : RowR S b n h0 R h) (hR : ∀ k, k < n → R k < n) (hi' : InjN n R) (hin : a + hi ≤ n) (hx : HpX a lo hi lo R) (hlo : lo < n)
    (hk : ∀ h' R', RowR S b n h0 R' h' → Pin n a (a + hi) R R' → Hp a lo hi R' → k h') : s69 (.slice b 0 n cap 1 ex) (Int.ofNat lo) (Int.ofNat hi) (Int.ofNat a) h k := by
  show s69G J0 s64 _ _ _ _ h k
  unfold s69G
  have ltR : ∀ {R' : Nat → Nat}, Pin n a (a + hi) R R' → ∀ k, k < n → R' k < n := fun p k hk => by
    by_cases h : k < a ∨ a + hi ≤ k
    · rw [p.out k h]; exact hR k hk
    · obtain ⟨k', q1, q2, q3⟩ := p.val k (by omega) (by omega)
      rw [q3]; exact hR k' (by omega)
  refine lp_rule (fun m v d h' => ∃ r0 R', m = n - r0 ∧ lo ≤ r0 ∧ r0 < n ∧ v = (.slice b 0 n cap 1 ex, .int .i64 (Int.ofNat hi), .int .i64 (Int.ofNat a), .int .i64 (Int.ofNat r0), ()) ∧ d = [] ∧ RowR S b n h0 R' h' ∧ Pin n a (a + hi) R R' ∧ HpX a lo hi r0 R' ∧ HpB a lo hi r0 R') (fun m self v d hc inv next => ?_) (n := n - lo) (by show _ < 4611686018427387904; omega) ⟨lo, R, rfl, Nat.le_refl _, hlo, rfl, rfl, r, Pin.refl _ _ _ _, hx, fun p c q1 q2 _ _ => by omega⟩
  obtain ⟨r0, R1, rfl, hlr, hrn, rfl, rfl, r1, p1, hx1, hb1⟩ := inv
  dsimp only
  have bn := ltR p1
  repeat with_reducible first | refine jn_r ?_ | refine jb_r ?_ | refine jd_r ?_ | refine brT_r ?_ | refine brF_r ?_ | refine pickT_r ?_ | refine pickF_r ?_ | refine asB_r ?_ | refine asI_r ?_ | refine asS_r ?_ | refine asBUb_r ?_ | refine asBUs_r ?_ | refine lvS_r ?_
  refine fIE_r (mul_nat (i := 2) (j := r0) (by omega)) ?_
  refine fIE_r (add_nat (i := 2 * r0) (j := 1) (by omega)) ?_
  repeat with_reducible first | refine jn_r ?_ | refine jb_r ?_ | refine jd_r ?_ | refine brT_r ?_ | refine brF_r ?_ | refine pickT_r ?_ | refine pickF_r ?_ | refine asB_r ?_ | refine asI_r ?_ | refine asS_r ?_ | refine asBUb_r ?_ | refine asBUs_r ?_ | refine lvS_r ?_
  refine fBE_r nlt ?_
  by_cases hch : 2 * r0 + 1 < hi
  rotate_left
  · rw [decide_eq_true (by omega)]
    repeat with_reducible first | refine jn_r ?_ | refine jb_r ?_ | refine jd_r ?_ | refine brT_r ?_ | refine brF_r ?_ | refine pickT_r ?_ | refine pickF_r ?_ | refine asB_r ?_ | refine asI_r ?_ | refine asS_r ?_ | refine asBUb_r ?_ | refine asBUs_r ?_ | refine lvS_r ?_
    exact hk hc R1 r1 p1 fun p c q1 q2 q3 => hx1 p c q1 (by omega) q2 q3
  rw [decide_eq_false (by omega)]
  -- with the greater child
  refine brF_r ?_
  refine jd_intro (fun v d h' => ∃ ch, v = (.slice b 0 n cap 1 ex, .int .i64 (Int.ofNat hi), .int .i64 (Int.ofNat a), .int .i64 (Int.ofNat r0), .int .i64 (Int.ofNat ch), ()) ∧ d = [] ∧ h' = hc ∧ (ch = 2 * r0 + 1 ∨ ch = 2 * r0 + 2) ∧ ch < hi ∧ ∀ c, (c = 2 * r0 + 1 ∨ c = 2 * r0 + 2) → c < hi → c ≠ ch → R1 (a + c) < R1 (a + ch)) (fun j14 hj => ?_) fun v d h5 q => ?_
  · refine fIE_r (add_nat (i := 2 * r0 + 1) (j := 1) (by omega)) ?_
    repeat with_reducible first | refine jn_r ?_ | refine jb_r ?_ | refine jd_r ?_ | refine brT_r ?_ | refine brF_r ?_ | refine pickT_r ?_ | refine pickF_r ?_ | refine asB_r ?_ | refine asI_r ?_ | refine asS_r ?_ | refine asBUb_r ?_ | refine asBUs_r ?_ | refine lvS_r ?_
    refine fBE_r ltD ?_
    have hne : a + (2 * r0 + 2) < n → R1 (a + (2 * r0 + 1)) ≠ R1 (a + (2 * r0 + 2)) := fun hl e' => by have := p1.inj hi' (a + (2 * r0 + 1)) (a + (2 * r0 + 2)) (by omega) hl e'; omega
    by_cases h2 : 2 * r0 + 1 + 1 < hi
    · rw [decide_eq_true h2]
      repeat with_reducible first | refine jn_r ?_ | refine jb_r ?_ | refine jd_r ?_ | refine brT_r ?_ | refine brF_r ?_ | refine pickT_r ?_ | refine pickF_r ?_ | refine asB_r ?_ | refine asI_r ?_ | refine asS_r ?_ | refine asBUb_r ?_ | refine asBUs_r ?_ | refine lvS_r ?_
      refine fIE_r (add_nat (i := a) (j := 2 * r0 + 1) (by omega)) ?_
      repeat with_reducible first | refine jn_r ?_ | refine jb_r ?_ | refine jd_r ?_ | refine brT_r ?_ | refine brF_r ?_ | refine pickT_r ?_ | refine pickF_r ?_ | refine asB_r ?_ | refine asI_r ?_ | refine asS_r ?_ | refine asBUb_r ?_ | refine asBUs_r ?_ | refine lvS_r ?_
      refine ix_r (by omega) ?_
      repeat with_reducible first | refine jn_r ?_ | refine jb_r ?_ | refine jd_r ?_ | refine brT_r ?_ | refine brF_r ?_ | refine pickT_r ?_ | refine pickF_r ?_ | refine asB_r ?_ | refine asI_r ?_ | refine asS_r ?_ | refine asBUb_r ?_ | refine asBUs_r ?_ | refine lvS_r ?_
      refine r1.ld (by omega) ?_
      repeat with_reducible first | refine jn_r ?_ | refine jb_r ?_ | refine jd_r ?_ | refine brT_r ?_ | refine brF_r ?_ | refine pickT_r ?_ | refine pickF_r ?_ | refine asB_r ?_ | refine asI_r ?_ | refine asS_r ?_ | refine asBUb_r ?_ | refine asBUs_r ?_ | refine lvS_r ?_
      refine fIE_r (add_nat (i := a) (j := 2 * r0 + 1) (by omega)) ?_
      repeat with_reducible first | refine jn_r ?_ | refine jb_r ?_ | refine jd_r ?_ | refine brT_r ?_ | refine brF_r ?_ | refine pickT_r ?_ | refine pickF_r ?_ | refine asB_r ?_ | refine asI_r ?_ | refine asS_r ?_ | refine asBUb_r ?_ | refine asBUs_r ?_ | refine lvS_r ?_
      refine fIE_r (add_nat (i := a + (2 * r0 + 1)) (j := 1) (by omega)) ?_
      repeat with_reducible first | refine jn_r ?_ | refine jb_r ?_ | refine jd_r ?_ | refine brT_r ?_ | refine brF_r ?_ | refine pickT_r ?_ | refine pickF_r ?_ | refine asB_r ?_ | refine asI_r ?_ | refine asS_r ?_ | refine asBUb_r ?_ | refine asBUs_r ?_ | refine lvS_r ?_
      refine ix_r (by omega) ?_
      repeat with_reducible first | refine jn_r ?_ | refine jb_r ?_ | refine jd_r ?_ | refine brT_r ?_ | refine brF_r ?_ | refine pickT_r ?_ | refine pickF_r ?_ | refine asB_r ?_ | refine asI_r ?_ | refine asS_r ?_ | refine asBUb_r ?_ | refine asBUs_r ?_ | refine lvS_r ?_
      refine r1.ld (by omega) ?_
      repeat with_reducible first | refine jn_r ?_ | refine jb_r ?_ | refine jd_r ?_ | refine brT_r ?_ | refine brF_r ?_ | refine pickT_r ?_ | refine pickF_r ?_ | refine asB_r ?_ | refine asI_r ?_ | refine asS_r ?_ | refine asBUb_r ?_ | refine asBUs_r ?_ | refine lvS_r ?_
      refine q64 os (bn _ (by omega)) (bn _ (by omega)) ?_
      repeat with_reducible first | refine jn_r ?_ | refine jb_r ?_ | refine jd_r ?_ | refine brT_r ?_ | refine brF_r ?_ | refine pickT_r ?_ | refine pickF_r ?_ | refine asB_r ?_ | refine asI_r ?_ | refine asS_r ?_ | refine asBUb_r ?_ | refine asBUs_r ?_ | refine lvS_r ?_
      by_cases hl : R1 (a + (2 * r0 + 1)) < R1 (a + (2 * r0 + 1) + 1)
      · rw [decide_eq_true hl]
        repeat with_reducible first | refine jn_r ?_ | refine jb_r ?_ | refine jd_r ?_ | refine brT_r ?_ | refine brF_r ?_ | refine pickT_r ?_ | refine pickF_r ?_ | refine asB_r ?_ | refine asI_r ?_ | refine asS_r ?_ | refine asBUb_r ?_ | refine asBUs_r ?_ | refine lvS_r ?_
        refine fIE_r (add_nat (i := 2 * r0 + 1) (j := 1) (by omega)) ?_
        refine hj _ _ _ ⟨2 * r0 + 1 + 1, rfl, rfl, rfl, .inr rfl, h2, fun c q1 q2 q3 => ?_⟩
        have : c = 2 * r0 + 1 := by omega
        rw [this]; exact hl
      · rw [decide_eq_false hl]
        repeat with_reducible first | refine jn_r ?_ | refine jb_r ?_ | refine jd_r ?_ | refine brT_r ?_ | refine brF_r ?_ | refine pickT_r ?_ | refine pickF_r ?_ | refine asB_r ?_ | refine asI_r ?_ | refine asS_r ?_ | refine asBUb_r ?_ | refine asBUs_r ?_ | refine lvS_r ?_
        refine hj _ _ _ ⟨2 * r0 + 1, rfl, rfl, rfl, .inl rfl, hch, fun c q1 q2 q3 => ?_⟩
        have : c = 2 * r0 + 2 := by omega
        rw [this]
        have := hne (by omega)
        have e' : a + (2 * r0 + 1) + 1 = a + (2 * r0 + 2) := by omega
        rw [e'] at hl
        omega
    · rw [decide_eq_false h2]
      repeat with_reducible first | refine jn_r ?_ | refine jb_r ?_ | refine jd_r ?_ | refine brT_r ?_ | refine brF_r ?_ | refine pickT_r ?_ | refine pickF_r ?_ | refine asB_r ?_ | refine asI_r ?_ | refine asS_r ?_ | refine asBUb_r ?_ | refine asBUs_r ?_ | refine lvS_r ?_
      exact hj _ _ _ ⟨2 * r0 + 1, rfl, rfl, rfl, .inl rfl, hch, fun c q1 q2 q3 => by omega⟩
  · obtain ⟨ch, rfl, rfl, rfl, hc1, hc2, hm⟩ := q
    dsimp only
    repeat with_reducible first | refine jn_r ?_ | refine jb_r ?_ | refine jd_r ?_ | refine brT_r ?_ | refine brF_r ?_ | refine pickT_r ?_ | refine pickF_r ?_ | refine asB_r ?_ | refine asI_r ?_ | refine asS_r ?_ | refine asBUb_r ?_ | refine asBUs_r ?_ | refine lvS_r ?_
    refine fIE_r (add_nat (i := a) (j := r0) (by omega)) ?_
    refine ix_r (by omega) ?_
    refine r1.ld (by omega) ?_
    repeat with_reducible first | refine jn_r ?_ | refine jb_r ?_ | refine jd_r ?_ | refine brT_r ?_ | refine brF_r ?_ | refine pickT_r ?_ | refine pickF_r ?_ | refine asB_r ?_ | refine asI_r ?_ | refine asS_r ?_ | refine asBUb_r ?_ | refine asBUs_r ?_ | refine lvS_r ?_
    refine fIE_r (add_nat (i := a) (j := ch) (by omega)) ?_
    refine ix_r (by omega) ?_
    refine r1.ld (by omega) ?_
    refine q64 os (bn _ (by omega)) (bn _ (by omega)) ?_
    by_cases hl : R1 (a + r0) < R1 (a + ch)
    rotate_left
    · rw [decide_eq_false hl]
      refine fBE_r (show Bool.not false = true from rfl) ?_
      repeat with_reducible first | refine jn_r ?_ | refine jb_r ?_ | refine jd_r ?_ | refine brT_r ?_ | refine brF_r ?_ | refine pickT_r ?_ | refine pickF_r ?_ | refine asB_r ?_ | refine asI_r ?_ | refine asS_r ?_ | refine asBUb_r ?_ | refine asBUs_r ?_ | refine lvS_r ?_
      have hne : R1 (a + r0) ≠ R1 (a + ch) := fun e' => by have := p1.inj hi' (a + r0) (a + ch) (by omega) (by omega) e'; omega
      refine hk h5 R1 r1 p1 fun p c q1 q2 q3 => ?_
      by_cases pr : p = r0
      · subst pr
        by_cases cc : c = ch
        · rw [cc]; omega
        · have := hm c q2 q3 cc; omega
      · exact hx1 p c q1 pr q2 q3
    rw [decide_eq_true hl]
    refine fBE_r (show Bool.not true = false from rfl) ?_
    repeat with_reducible first | refine jn_r ?_ | refine jb_r ?_ | refine jd_r ?_ | refine brT_r ?_ | refine brF_r ?_ | refine pickT_r ?_ | refine pickF_r ?_ | refine asB_r ?_ | refine asI_r ?_ | refine asS_r ?_ | refine asBUb_r ?_ | refine asBUs_r ?_ | refine lvS_r ?_
    refine fIE_r (add_nat (i := a) (j := r0) (by omega)) ?_
    repeat with_reducible first | refine jn_r ?_ | refine jb_r ?_ | refine jd_r ?_ | refine brT_r ?_ | refine brF_r ?_ | refine pickT_r ?_ | refine pickF_r ?_ | refine asB_r ?_ | refine asI_r ?_ | refine asS_r ?_ | refine asBUb_r ?_ | refine asBUs_r ?_ | refine lvS_r ?_
    refine fIE_r (add_nat (i := a) (j := ch) (by omega)) ?_
    repeat with_reducible first | refine jn_r ?_ | refine jb_r ?_ | refine jd_r ?_ | refine brT_r ?_ | refine brF_r ?_ | refine pickT_r ?_ | refine pickF_r ?_ | refine asB_r ?_ | refine asI_r ?_ | refine asS_r ?_ | refine asBUb_r ?_ | refine asBUs_r ?_ | refine lvS_r ?_
    refine fIE_r (add_nat (i := a) (j := ch) (by omega)) ?_
    refine ix_r (by omega) ?_
    refine r1.ld (by omega) ?_
    repeat with_reducible first | refine jn_r ?_ | refine jb_r ?_ | refine jd_r ?_ | refine brT_r ?_ | refine brF_r ?_ | refine pickT_r ?_ | refine pickF_r ?_ | refine asB_r ?_ | refine asI_r ?_ | refine asS_r ?_ | refine asBUb_r ?_ | refine asBUs_r ?_ | refine lvS_r ?_
    refine fIE_r (add_nat (i := a) (j := r0) (by omega)) ?_
    refine ix_r (by omega) ?_
    refine r1.ld (by omega) ?_
    refine ix_r (by omega) ?_
    refine r1.st (by omega) fun h6 r6 => ?_
    refine ix_r (by omega) ?_
    refine r6.st (by omega) fun h7 r7 => ?_
    have r7 : RowR S b n h0 (swp R1 (a + r0) (a + ch)) h7 := r7
    have hs := heap_step hx1 hb1 hlr hc1 hc2 hm hl
    exact next (n - ch) _ _ _ (by omega) ⟨ch, _, rfl, by omega, by omega, rfl, rfl, r7, p1.trans (Pin.swp (by omega) (by omega) (by omega) (by omega) hin), hs.1, hs.2⟩
theorem q59 {S : Nat → Str} {b n cap : Nat} {ex : Bool} {h0 h : H} {R : Nat → Nat} {a e : Nat} {k : H → Prop} (os : OrdS S n) (hn : n < 1000000) (r : RowR S b n h0 R h) (hs : Seg a e R) (hR : ∀ k, k < n → R k < n) (hi : InjN n R) (hae : a < e) (hen : e ≤ n)
    (hk : ∀ h' R', RowR S b n h0 R' h' → Pin n a e R R' → (∀ x, a ≤ x → x < e → R' x = x) → k h') : s59 (.slice b 0 n cap 1 ex) (Int.ofNat a) (Int.ofNat e) h k := by
  show s59G J0 s69 _ _ _ h k
  unfold s59G
  refine fIE_r (sub_nat (i := e) (j := a) (by omega) (by omega)) ?_
  refine fIE_r (dec_nat (i := e - a) (by omega) (by omega)) ?_
  refine ck_intro rfl ?_
  refine fIE_r (div_nat (i := e - a - 1) (j := 2) (by omega)) ?_
  obtain ⟨hi0, hh⟩ : ∃ hi0, hi0 = e - a := ⟨_, rfl⟩
  rw [← hh]
  have hae' : a + hi0 = e := by omega
  refine lp_rule (fun m v d h' => ∃ i R', m = i ∧ i ≤ hi0 ∧ v = (.slice b 0 n cap 1 ex, .int .i64 (Int.ofNat a), .int .i64 (Int.ofNat 0), .int .i64 (Int.ofNat hi0), .int .i64 ((i : Int) - 1), ()) ∧ d = [] ∧ RowR S b n h0 R' h' ∧ Pin n a e R R' ∧ Hp a i hi0 R') (fun m self v d hc inv next => ?_) (n := (hi0 - 1) / 2 + 1) (by show _ < 4611686018427387904; omega) ⟨(hi0 - 1) / 2 + 1, R, rfl, by omega, by congr; simp only [Int.ofNat_eq_natCast]; omega, rfl, r, Pin.refl _ _ _ _, fun p c q1 q2 q3 => by omega⟩
  obtain ⟨i, R1, rfl, hih, rfl, rfl, r1, p1, hp1⟩ := inv
  dsimp only
  repeat with_reducible first | refine jn_r ?_ | refine jb_r ?_ | refine jd_r ?_ | refine brT_r ?_ | refine brF_r ?_ | refine pickT_r ?_ | refine pickF_r ?_ | refine asB_r ?_ | refine asI_r ?_ | refine asS_r ?_ | refine asBUb_r ?_ | refine asBUs_r ?_ | refine lvS_r ?_
  by_cases hi1 : 1 ≤ m
  · have ei : ((m : Int) - 1) = Int.ofNat (m - 1) := by simp only [Int.ofNat_eq_natCast]; omega
    rw [ei]
    refine fBE_r (show Bool.not (ltI (Int.ofNat (m - 1)) (Int.ofNat 0)) = true by rw [nlt, decide_eq_true (by omega)]) ?_
    repeat with_reducible first | refine jn_r ?_ | refine jb_r ?_ | refine jd_r ?_ | refine brT_r ?_ | refine brF_r ?_ | refine pickT_r ?_ | refine pickF_r ?_ | refine asB_r ?_ | refine asI_r ?_ | refine asS_r ?_ | refine asBUb_r ?_ | refine asBUs_r ?_ | refine lvS_r ?_
    refine q69 os hn r1 (p1.lt hen hs hR) (p1.inj hi) (by omega) (fun p c q1 q2 q3 q4 => hp1 p c (by omega) q3 q4) (by omega) fun h2 R2 r2 p2 hp2 => ?_
    rw [hae'] at p2
    repeat with_reducible first | refine jn_r ?_ | refine jb_r ?_ | refine jd_r ?_ | refine brT_r ?_ | refine brF_r ?_ | refine pickT_r ?_ | refine pickF_r ?_ | refine asB_r ?_ | refine asI_r ?_ | refine asS_r ?_ | refine asBUb_r ?_ | refine asBUs_r ?_ | refine lvS_r ?_
    refine fIE_r (decI (i := m - 1) (by omega)) ?_
    exact next (m - 1) _ _ _ (by omega) ⟨m - 1, R2, rfl, by omega, rfl, rfl, r2, p1.trans p2, hp2⟩
  · have m0 : m = 0 := by omega
    subst m0
    refine fBE_r (show Bool.not (ltI (((0 : Nat) : Int) - 1) (Int.ofNat 0)) = false by rw [show ltI (((0 : Nat) : Int) - 1) (Int.ofNat 0) = true from ltI_true.2 (by decide)]; rfl) ?_
    repeat with_reducible first | refine jn_r ?_ | refine jb_r ?_ | refine jd_r ?_ | refine brT_r ?_ | refine brF_r ?_ | refine pickT_r ?_ | refine pickF_r ?_ | refine asB_r ?_ | refine asI_r ?_ | refine asS_r ?_ | refine asBUb_r ?_ | refine asBUs_r ?_ | refine lvS_r ?_
    refine fIE_r (dec_nat (by omega) (by omega)) ?_
    refine lp_rule (fun m v d h' => ∃ i R', m = i ∧ i ≤ hi0 ∧ v = (.slice b 0 n cap 1 ex, .int .i64 (Int.ofNat a), .int .i64 (Int.ofNat 0), .int .i64 ((i : Int) - 1), ()) ∧ d = [] ∧ RowR S b n h0 R' h' ∧ Pin n a e R R' ∧ Hp a 0 i R' ∧ ∀ x y, y < x → i ≤ x → x < hi0 → R' (a + y) < R' (a + x)) (fun m2 self2 v2 d2 h2 inv2 next2 => ?_) (n := hi0) (by show _ < 4611686018427387904; omega) ⟨hi0, R1, rfl, Nat.le_refl _, by congr; simp only [Int.ofNat_eq_natCast]; omega, rfl, r1, p1, hp1, fun x y _ q1 q2 => by omega⟩
    obtain ⟨i, R2, rfl, hih2, rfl, rfl, r2, p2, hp2, suf⟩ := inv2
    dsimp only
    repeat with_reducible first | refine jn_r ?_ | refine jb_r ?_ | refine jd_r ?_ | refine brT_r ?_ | refine brF_r ?_ | refine pickT_r ?_ | refine pickF_r ?_ | refine asB_r ?_ | refine asI_r ?_ | refine asS_r ?_ | refine asBUb_r ?_ | refine asBUs_r ?_ | refine lvS_r ?_
    by_cases hi2 : 1 ≤ m2
    rotate_left
    · have m0 : m2 = 0 := by omega
      subst m0
      refine fBE_r (show Bool.not (ltI (((0 : Nat) : Int) - 1) (Int.ofNat 0)) = false by rw [show ltI (((0 : Nat) : Int) - 1) (Int.ofNat 0) = true from ltI_true.2 (by decide)]; rfl) ?_
      repeat with_reducible first | refine jn_r ?_ | refine jb_r ?_ | refine jd_r ?_ | refine brT_r ?_ | refine brF_r ?_ | refine pickT_r ?_ | refine pickF_r ?_ | refine asB_r ?_ | refine asI_r ?_ | refine asS_r ?_ | refine asBUb_r ?_ | refine asBUs_r ?_ | refine lvS_r ?_
      refine hk h2 R2 r2 p2 (done_of_inc (p2.seg hs) fun x y q1 q2 q3 => ?_)
      have := suf (y - a) (x - a) (by omega) (by omega) (by omega)
      rw [show a + (x - a) = x by omega, show a + (y - a) = y by omega] at this
      exact this
    have ei : ((m2 : Int) - 1) = Int.ofNat (m2 - 1) := by simp only [Int.ofNat_eq_natCast]; omega
    rw [ei]
    refine fBE_r (show Bool.not (ltI (Int.ofNat (m2 - 1)) (Int.ofNat 0)) = true by rw [nlt, decide_eq_true (by omega)]) ?_
    repeat with_reducible first | refine jn_r ?_ | refine jb_r ?_ | refine jd_r ?_ | refine brT_r ?_ | refine brF_r ?_ | refine pickT_r ?_ | refine pickF_r ?_ | refine asB_r ?_ | refine asI_r ?_ | refine asS_r ?_ | refine asBUb_r ?_ | refine asBUs_r ?_ | refine lvS_r ?_
    refine fIE_r (add_nat (i := a) (j := m2 - 1) (by omega)) ?_
    repeat with_reducible first | refine jn_r ?_ | refine jb_r ?_ | refine jd_r ?_ | refine brT_r ?_ | refine brF_r ?_ | refine pickT_r ?_ | refine pickF_r ?_ | refine asB_r ?_ | refine asI_r ?_ | refine asS_r ?_ | refine asBUb_r ?_ | refine asBUs_r ?_ | refine lvS_r ?_
    refine fIE_r (add_nat (i := a) (j := m2 - 1) (by omega)) ?_
    refine ix_r (by omega) ?_
    refine r2.ld (by omega) ?_
    refine ix_r (by omega) ?_
    refine r2.ld (by omega) ?_
    refine ix_r (by omega) ?_
    refine r2.st (by omega) fun h3 r3 => ?_
    refine ix_r (by omega) ?_
    refine r3.st (by omega) fun h4 r4 => ?_
    have r4 : RowR S b n h0 (swp R2 a (a + (m2 - 1))) h4 := r4
    have p4 : Pin n a e R2 (swp R2 a (a + (m2 - 1))) := Pin.swp (Nat.le_refl _) hae (by omega) (by omega) hen
    have p4' : Pin n a (a + m2) R2 (swp R2 a (a + (m2 - 1))) := Pin.swp (Nat.le_refl _) (by omega) (by omega) (by omega) (by omega)
    have e4 : ∀ x, swp R2 a (a + (m2 - 1)) x = if x = a + (m2 - 1) then R2 a else if x = a then R2 (a + (m2 - 1)) else R2 x := fun x => rfl
    repeat with_reducible first | refine jn_r ?_ | refine jb_r ?_ | refine jd_r ?_ | refine brT_r ?_ | refine brF_r ?_ | refine pickT_r ?_ | refine pickF_r ?_ | refine asB_r ?_ | refine asI_r ?_ | refine asS_r ?_ | refine asBUb_r ?_ | refine asBUs_r ?_ | refine lvS_r ?_
    refine q69 (a := a) (lo := 0) (hi := m2 - 1) os hn r4 ((p2.trans p4).lt hen hs hR) ((p2.trans p4).inj hi) (by omega) (fun p c q1 q2 q3 q4 => ?_) (by omega) fun h5 R5 r5 p5 hp5 => ?_
    · rw [e4, e4, if_neg (by omega), if_neg (by omega), if_neg (by omega), if_neg (by omega)]
      exact hp2 p c q1 q3 (by omega)
    repeat with_reducible first | refine jn_r ?_ | refine jb_r ?_ | refine jd_r ?_ | refine brT_r ?_ | refine brF_r ?_ | refine pickT_r ?_ | refine pickF_r ?_ | refine asB_r ?_ | refine asI_r ?_ | refine asS_r ?_ | refine asBUb_r ?_ | refine asBUs_r ?_ | refine lvS_r ?_
    refine fIE_r (decI (i := m2 - 1) (by omega)) ?_
    refine next2 (m2 - 1) _ _ _ (by omega) ⟨m2 - 1, R5, rfl, by omega, rfl, rfl, r5, (p2.trans p4).trans (p5.up (Nat.le_refl _) (by omega)), hp5, fun x y q1 q2 q3 => ?_⟩
    -- what stands behind is greater
    have hx5 : R5 (a + x) = swp R2 a (a + (m2 - 1)) (a + x) := p5.out _ (by omega)
    have hy5 : ∃ y', y' < m2 ∧ (y < m2 → R5 (a + y) = R2 (a + y')) ∧ (y < m2 - 1 → y' ≠ 0 ∨ m2 = 1) := by
      by_cases hy : y < m2 - 1
      · obtain ⟨y1, b1, b2, b3⟩ := p5.val (a + y) (by omega) (by omega)
        rw [e4, if_neg (by omega)] at b3
        by_cases y1a : y1 = a
        · rw [if_pos y1a] at b3; exact ⟨m2 - 1, by omega, fun _ => b3, fun _ => by omega⟩
        · rw [if_neg y1a] at b3; exact ⟨y1 - a, by omega, fun _ => by rw [b3, show a + (y1 - a) = y1 by omega], fun _ => by omega⟩
      · refine ⟨0, by omega, fun hy' => ?_, fun h => absurd h hy⟩
        rw [p5.out _ (by omega), e4, if_pos (by omega)]; rfl
    obtain ⟨y', g1, g2, g3⟩ := hy5
    by_cases hx1 : x = m2 - 1
    · rw [hx5, e4, if_pos (by omega), g2 (by omega)]
      have := heap_max hp2 y' (by have := g3 (by omega); omega) g1
      exact this
    · rw [hx5, e4, if_neg (by omega), if_neg (by omega)]
      by_cases hy : y < m2
      · rw [g2 hy]; exact suf x y' (by omega) (by omega) q3
      · rw [p5.out (a + y) (by omega), e4, if_neg (by omega), if_neg (by omega)]
        exact suf x y q1 (by omega) q3
end Go.Proofs.Ytiejkbmobmgdkaa
