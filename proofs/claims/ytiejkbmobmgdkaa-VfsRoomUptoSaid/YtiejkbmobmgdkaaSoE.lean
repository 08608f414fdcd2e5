/- A part is sorted in few steps, or it is told that it was not. No condition. -/
import Derived.Test.YtiejkbmobmgdkaaSoD
namespace Go.Am
open Go
set_option linter.all false
/-- a part rises -/
def Inc (a i : Nat) (R : Nat → Nat) : Prop := ∀ x y, a ≤ x → x < y → y < i → R x < R y
theorem Inc.step {a i : Nat} {R : Nat → Nat} (h : Inc a i R) (h1 : i = a ∨ R (i - 1) < R i) (hai : a ≤ i) : Inc a (i + 1) R := by
  intro x y x1 x2 x3
  by_cases yi : y = i
  · subst yi
    rcases h1 with e | e
    · omega
    · by_cases xi : x = y - 1
      · rw [xi]; exact e
      · exact Nat.lt_trans (h x (y - 1) x1 (by omega) (by omega)) e
  · exact h x y x1 x2 (by omega)
theorem swp_sym {R : Nat → Nat} {i j : Nat} : upd1 (upd1 R j (R i)) i (R j) = swp R i j := by
  funext x
  show (if x = i then R j else if x = j then R i else R x) = (if x = j then R i else if x = i then R j else R x)
  by_cases x1 : x = j
  · by_cases x2 : x = i
    · rw [if_pos x2, if_pos x1, ← x1, ← x2]
    · rw [if_neg x2, if_pos x1, if_pos x1]
  · rw [if_neg x1, if_neg x1]
end Go.Am
namespace Go.Proofs.Ytiejkbmobmgdkaa
open Go Go.Am
set_option linter.all false
set_option maxRecDepth 100000
theorem q63 {S : Nat → Str} {b n cap : Nat} {ex : Bool} {h0 h : H} {R : Nat → Nat} {a e : Nat} {k : Bool → H → Prop} (os : OrdS S n) (hn : n < 1000000) (r : RowR S b n h0 R h) (hs : Seg a e R) (hR : ∀ k, k < n → R k < n) (hi : InjN n R) (hpre : ∀ k, k < a → R k < a) (hae : a < e) (hen : e ≤ n)
    (hk : ∀ t h' R', RowR S b n h0 R' h' → Pin n a e R R' → (t = true → ∀ x, a ≤ x → x < e → R' x = x) → k t h') : s63 (.slice b 0 n cap 1 ex) (Int.ofNat a) (Int.ofNat e) h k := by
  show s63G J0 s64 _ _ _ h k
  unfold s63G
  refine fIE_r (add_nat (i := a) (j := 1) (by omega)) ?_
  refine lp_rule (fun m v d h' => ∃ i c R', m = 5 - c ∧ a + 1 ≤ i ∧ i ≤ e ∧ v = (.slice b 0 n cap 1 ex, .int .i64 (Int.ofNat a), .int .i64 (Int.ofNat e), .int .i64 (Int.ofNat i), .int .i64 (Int.ofNat c), ()) ∧ d = [] ∧ RowR S b n h0 R' h' ∧ Pin n a e R R' ∧ Inc a i R') (fun m self v d hc inv next => ?_) (n := 5 - 0) (by show _ < 4611686018427387904; omega) ⟨a + 1, 0, R, rfl, Nat.le_refl _, by omega, rfl, rfl, r, Pin.refl _ _ _ _, fun x y x1 x2 x3 => by omega⟩
  obtain ⟨i0, c, R1, rfl, hai0, hie0, rfl, rfl, r1, p1, inc1⟩ := inv
  dsimp only
  repeat with_reducible first | refine jn_r ?_ | refine jb_r ?_ | refine jd_r ?_ | refine brT_r ?_ | refine brF_r ?_ | refine pickT_r ?_ | refine pickF_r ?_ | refine asB_r ?_ | refine asI_r ?_ | refine asS_r ?_ | refine asBUb_r ?_ | refine asBUs_r ?_ | refine lvS_r ?_
  refine fBE_r (show ltI (Int.ofNat c) (Int.ofNat 5) = decide (c < 5) from ltD) ?_
  by_cases hc5 : c < 5
  rotate_left
  · rw [decide_eq_false hc5]
    repeat with_reducible first | refine jn_r ?_ | refine jb_r ?_ | refine jd_r ?_ | refine brT_r ?_ | refine brF_r ?_ | refine pickT_r ?_ | refine pickF_r ?_ | refine asB_r ?_ | refine asI_r ?_ | refine asS_r ?_ | refine asBUb_r ?_ | refine asBUs_r ?_ | refine lvS_r ?_
    exact hk false hc R1 r1 p1 fun h => by cases h
  rw [decide_eq_true hc5]
  repeat with_reducible first | refine jn_r ?_ | refine jb_r ?_ | refine jd_r ?_ | refine brT_r ?_ | refine brF_r ?_ | refine pickT_r ?_ | refine pickF_r ?_ | refine asB_r ?_ | refine asI_r ?_ | refine asS_r ?_ | refine asBUb_r ?_ | refine asBUs_r ?_ | refine lvS_r ?_
  refine lp_rule (fun m v d h' => ∃ i, m = e - i ∧ a + 1 ≤ i ∧ i ≤ e ∧ v = (.slice b 0 n cap 1 ex, .int .i64 (Int.ofNat a), .int .i64 (Int.ofNat e), .int .i64 (Int.ofNat i), .int .i64 (Int.ofNat c), ()) ∧ d = [] ∧ h' = hc ∧ Inc a i R1) (fun m2 self2 v2 d2 h2 inv2 next2 => ?_) (n := e - i0) (by show _ < 4611686018427387904; omega) ⟨i0, rfl, hai0, hie0, rfl, rfl, rfl, inc1⟩
  obtain ⟨i, rfl, hai, hie, rfl, rfl, rfl, inc2⟩ := inv2
  dsimp only
  repeat with_reducible first | refine jn_r ?_ | refine jb_r ?_ | refine jd_r ?_ | refine brT_r ?_ | refine brF_r ?_ | refine pickT_r ?_ | refine pickF_r ?_ | refine asB_r ?_ | refine asI_r ?_ | refine asS_r ?_ | refine asBUb_r ?_ | refine asBUs_r ?_ | refine lvS_r ?_
  refine fBE_r ltD ?_
  have bn := p1.lt hen hs hR
  have nx : ∀ {i' : Nat} {h5 : H} {R5 : Nat → Nat}, RowR S b n h0 R5 h5 → Pin n a e R R5 → Inc a i' R5 → a + 1 ≤ i' → i' ≤ e → fI (wrapF .i64 (Int.add (Int.ofNat c) (Int.ofNat 1))) fun x13 => self (.slice b 0 n cap 1 ex, .int .i64 (Int.ofNat a), .int .i64 (Int.ofNat e), .int .i64 (Int.ofNat i'), .int .i64 x13, ()) [] h5 := by
    intro i' h5 R5 r5 p5 inc5 q1 q2
    refine fIE_r (add_nat (i := c) (j := 1) (by omega)) ?_
    exact next (5 - (c + 1)) _ _ _ (by omega) ⟨i', c + 1, R5, rfl, q1, q2, rfl, rfl, r5, p5, inc5⟩
  suffices go : (i = e ∨ i < e ∧ R1 i < R1 (i - 1)) → _ by
    by_cases hle : i < e
    · rw [decide_eq_true hle]
      repeat with_reducible first | refine jn_r ?_ | refine jb_r ?_ | refine jd_r ?_ | refine brT_r ?_ | refine brF_r ?_ | refine pickT_r ?_ | refine pickF_r ?_ | refine asB_r ?_ | refine asI_r ?_ | refine asS_r ?_ | refine asBUb_r ?_ | refine asBUs_r ?_ | refine lvS_r ?_
      refine ix_r (by omega) ?_
      repeat with_reducible first | refine jn_r ?_ | refine jb_r ?_ | refine jd_r ?_ | refine brT_r ?_ | refine brF_r ?_ | refine pickT_r ?_ | refine pickF_r ?_ | refine asB_r ?_ | refine asI_r ?_ | refine asS_r ?_ | refine asBUb_r ?_ | refine asBUs_r ?_ | refine lvS_r ?_
      refine r1.ld (by omega) ?_
      repeat with_reducible first | refine jn_r ?_ | refine jb_r ?_ | refine jd_r ?_ | refine brT_r ?_ | refine brF_r ?_ | refine pickT_r ?_ | refine pickF_r ?_ | refine asB_r ?_ | refine asI_r ?_ | refine asS_r ?_ | refine asBUb_r ?_ | refine asBUs_r ?_ | refine lvS_r ?_
      refine fIE_r (dec_nat (by omega) (by omega)) ?_
      repeat with_reducible first | refine jn_r ?_ | refine jb_r ?_ | refine jd_r ?_ | refine brT_r ?_ | refine brF_r ?_ | refine pickT_r ?_ | refine pickF_r ?_ | refine asB_r ?_ | refine asI_r ?_ | refine asS_r ?_ | refine asBUb_r ?_ | refine asBUs_r ?_ | refine lvS_r ?_
      refine ix_r (by omega) ?_
      repeat with_reducible first | refine jn_r ?_ | refine jb_r ?_ | refine jd_r ?_ | refine brT_r ?_ | refine brF_r ?_ | refine pickT_r ?_ | refine pickF_r ?_ | refine asB_r ?_ | refine asI_r ?_ | refine asS_r ?_ | refine asBUb_r ?_ | refine asBUs_r ?_ | refine lvS_r ?_
      refine r1.ld (by omega) ?_
      repeat with_reducible first | refine jn_r ?_ | refine jb_r ?_ | refine jd_r ?_ | refine brT_r ?_ | refine brF_r ?_ | refine pickT_r ?_ | refine pickF_r ?_ | refine asB_r ?_ | refine asI_r ?_ | refine asS_r ?_ | refine asBUb_r ?_ | refine asBUs_r ?_ | refine lvS_r ?_
      refine q64 os (bn _ (by omega)) (bn _ (by omega)) ?_
      repeat with_reducible first | refine jn_r ?_ | refine jb_r ?_ | refine jd_r ?_ | refine brT_r ?_ | refine brF_r ?_ | refine pickT_r ?_ | refine pickF_r ?_ | refine asB_r ?_ | refine asI_r ?_ | refine asS_r ?_ | refine asBUb_r ?_ | refine asBUs_r ?_ | refine lvS_r ?_
      by_cases hl : R1 i < R1 (i - 1)
      · rw [decide_eq_true hl]
        repeat with_reducible first | refine jn_r ?_ | refine jb_r ?_ | refine jd_r ?_ | refine brT_r ?_ | refine brF_r ?_ | refine pickT_r ?_ | refine pickF_r ?_ | refine asB_r ?_ | refine asI_r ?_ | refine asS_r ?_ | refine asBUb_r ?_ | refine asBUs_r ?_ | refine lvS_r ?_
        refine fBE_r (show Bool.not true = false from rfl) ?_
        repeat with_reducible first | refine jn_r ?_ | refine jb_r ?_ | refine jd_r ?_ | refine brT_r ?_ | refine brF_r ?_ | refine pickT_r ?_ | refine pickF_r ?_ | refine asB_r ?_ | refine asI_r ?_ | refine asS_r ?_ | refine asBUb_r ?_ | refine asBUs_r ?_ | refine lvS_r ?_
        exact go (.inr ⟨hle, hl⟩)
      · rw [decide_eq_false hl]
        repeat with_reducible first | refine jn_r ?_ | refine jb_r ?_ | refine jd_r ?_ | refine brT_r ?_ | refine brF_r ?_ | refine pickT_r ?_ | refine pickF_r ?_ | refine asB_r ?_ | refine asI_r ?_ | refine asS_r ?_ | refine asBUb_r ?_ | refine asBUs_r ?_ | refine lvS_r ?_
        refine fBE_r (show Bool.not false = true from rfl) ?_
        repeat with_reducible first | refine jn_r ?_ | refine jb_r ?_ | refine jd_r ?_ | refine brT_r ?_ | refine brF_r ?_ | refine pickT_r ?_ | refine pickF_r ?_ | refine asB_r ?_ | refine asI_r ?_ | refine asS_r ?_ | refine asBUb_r ?_ | refine asBUs_r ?_ | refine lvS_r ?_
        refine fIE_r (add_nat (i := i) (j := 1) (by omega)) ?_
        have hne : R1 i ≠ R1 (i - 1) := fun e' => by have := p1.inj hi i (i - 1) (by omega) (by omega) e'; omega
        exact next2 (e - (i + 1)) _ _ _ (by omega) ⟨i + 1, rfl, by omega, by omega, rfl, rfl, rfl, inc2.step (.inr (by omega)) (by omega)⟩
    · rw [decide_eq_false hle]
      repeat with_reducible first | refine jn_r ?_ | refine jb_r ?_ | refine jd_r ?_ | refine brT_r ?_ | refine brF_r ?_ | refine pickT_r ?_ | refine pickF_r ?_ | refine asB_r ?_ | refine asI_r ?_ | refine asS_r ?_ | refine asBUb_r ?_ | refine asBUs_r ?_ | refine lvS_r ?_
      exact go (.inl (by omega))
  intro hgo
  repeat with_reducible first | refine jn_r ?_ | refine jb_r ?_ | refine jd_r ?_ | refine brT_r ?_ | refine brF_r ?_ | refine pickT_r ?_ | refine pickF_r ?_ | refine asB_r ?_ | refine asI_r ?_ | refine asS_r ?_ | refine asBUb_r ?_ | refine asBUs_r ?_ | refine lvS_r ?_
  refine fBE_r (eqI_dec _ _) ?_
  by_cases hie' : i = e
  · rw [decide_eq_true (by rw [hie'])]
    repeat with_reducible first | refine jn_r ?_ | refine jb_r ?_ | refine jd_r ?_ | refine brT_r ?_ | refine brF_r ?_ | refine pickT_r ?_ | refine pickF_r ?_ | refine asB_r ?_ | refine asI_r ?_ | refine asS_r ?_ | refine asBUb_r ?_ | refine asBUs_r ?_ | refine lvS_r ?_
    exact hk true h2 R1 r1 p1 fun _ => done_of_inc (p1.seg hs) fun x y x1 x2 x3 => inc2 x y x1 x2 (by omega)
  rw [decide_eq_false (fun c => hie' (Int.ofNat.inj c))]
  repeat with_reducible first | refine jn_r ?_ | refine jb_r ?_ | refine jd_r ?_ | refine brT_r ?_ | refine brF_r ?_ | refine pickT_r ?_ | refine pickF_r ?_ | refine asB_r ?_ | refine asI_r ?_ | refine asS_r ?_ | refine asBUb_r ?_ | refine asBUs_r ?_ | refine lvS_r ?_
  obtain ⟨hlt, hless⟩ := hgo.resolve_left hie'
  refine fIE_r (sub_nat (i := e) (j := a) (by omega) (by omega)) ?_
  refine fBE_r (show ltI (Int.ofNat (e - a)) (Int.ofNat 50) = decide (e - a < 50) from ltD) ?_
  by_cases h50 : e - a < 50
  · rw [decide_eq_true h50]
    repeat with_reducible first | refine jn_r ?_ | refine jb_r ?_ | refine jd_r ?_ | refine brT_r ?_ | refine brF_r ?_ | refine pickT_r ?_ | refine pickF_r ?_ | refine asB_r ?_ | refine asI_r ?_ | refine asS_r ?_ | refine asBUb_r ?_ | refine asBUs_r ?_ | refine lvS_r ?_
    exact hk false h2 R1 r1 p1 fun h => by cases h
  rw [decide_eq_false h50]
  repeat with_reducible first | refine jn_r ?_ | refine jb_r ?_ | refine jd_r ?_ | refine brT_r ?_ | refine brF_r ?_ | refine pickT_r ?_ | refine pickF_r ?_ | refine asB_r ?_ | refine asI_r ?_ | refine asS_r ?_ | refine asBUb_r ?_ | refine asBUs_r ?_ | refine lvS_r ?_
  refine fIE_r (dec_nat (by omega) (by omega)) ?_
  repeat with_reducible first | refine jn_r ?_ | refine jb_r ?_ | refine jd_r ?_ | refine brT_r ?_ | refine brF_r ?_ | refine pickT_r ?_ | refine pickF_r ?_ | refine asB_r ?_ | refine asI_r ?_ | refine asS_r ?_ | refine asBUb_r ?_ | refine asBUs_r ?_ | refine lvS_r ?_
  refine fIE_r (dec_nat (by omega) (by omega)) ?_
  refine ix_r (by omega) ?_
  refine r1.ld (by omega) ?_
  refine ix_r (by omega) ?_
  refine r1.ld (by omega) ?_
  refine ix_r (by omega) ?_
  refine r1.st (by omega) fun h3 r3 => ?_
  refine ix_r (by omega) ?_
  refine r3.st (by omega) fun h4 r4 => ?_
  rw [swp_sym] at r4
  have p4 : Pin n a e R (swp R1 (i - 1) i) := p1.trans (Pin.swp (by omega) (by omega) (by omega) (by omega) hen)
  -- what stands behind the shift to the left
  refine jd_intro (fun v d h' => ∃ R5, v = (.slice b 0 n cap 1 ex, .int .i64 (Int.ofNat a), .int .i64 (Int.ofNat e), .int .i64 (Int.ofNat i), .int .i64 (Int.ofNat c), ()) ∧ d = [] ∧ RowR S b n h0 R5 h' ∧ Pin n a e R R5 ∧ Inc a i R5) (fun j93 hj => ?_) fun v d h5 q => ?_
  · repeat with_reducible first | refine jn_r ?_ | refine jb_r ?_ | refine jd_r ?_ | refine brT_r ?_ | refine brF_r ?_ | refine pickT_r ?_ | refine pickF_r ?_ | refine asB_r ?_ | refine asI_r ?_ | refine asS_r ?_ | refine asBUb_r ?_ | refine asBUs_r ?_ | refine lvS_r ?_
    refine fIE_r (sub_nat (i := i) (j := a) (by omega) (by omega)) ?_
    refine fBE_r (show Bool.not (ltI (Int.ofNat (i - a)) (Int.ofNat 2)) = decide (2 ≤ i - a) from nlt) ?_
    have e4 : ∀ x, swp R1 (i - 1) i x = if x = i then R1 (i - 1) else if x = i - 1 then R1 i else R1 x := fun x => rfl
    by_cases h2i : 2 ≤ i - a
    rotate_left
    · rw [decide_eq_false h2i]
      repeat with_reducible first | refine jn_r ?_ | refine jb_r ?_ | refine jd_r ?_ | refine brT_r ?_ | refine brF_r ?_ | refine pickT_r ?_ | refine pickF_r ?_ | refine asB_r ?_ | refine asI_r ?_ | refine asS_r ?_ | refine asBUb_r ?_ | refine asBUs_r ?_ | refine lvS_r ?_
      exact hj _ _ _ ⟨_, rfl, rfl, r4, p4, fun x y x1 x2 x3 => by omega⟩
    rw [decide_eq_true h2i]
    repeat with_reducible first | refine jn_r ?_ | refine jb_r ?_ | refine jd_r ?_ | refine brT_r ?_ | refine brF_r ?_ | refine pickT_r ?_ | refine pickF_r ?_ | refine asB_r ?_ | refine asI_r ?_ | refine asS_r ?_ | refine asBUb_r ?_ | refine asBUs_r ?_ | refine lvS_r ?_
    refine fIE_r (dec_nat (by omega) (by omega)) ?_
    refine lp_rule (fun m v d h' => ∃ j R5, m = j ∧ a ≤ j ∧ j ≤ i - 1 ∧ v = (.slice b 0 n cap 1 ex, .int .i64 (Int.ofNat a), .int .i64 (Int.ofNat e), .int .i64 (Int.ofNat i), .int .i64 (Int.ofNat c), .int .i64 (Int.ofNat j), ()) ∧ d = [] ∧ RowR S b n h0 R5 h' ∧ Pin n a e R R5 ∧ Ins a (i - 1) j R5) (fun m3 self3 v3 d3 h5 inv3 next3 => ?_) (n := i - 1) (by show _ < 4611686018427387904; omega) ⟨i - 1, _, rfl, by omega, Nat.le_refl _, rfl, rfl, r4, p4, fun x y x1 x2 x3 x4 x5 => by
      rw [e4, e4, if_neg (by omega), if_neg x4, if_neg (by omega), if_neg x5]; exact inc2 x y x1 x2 (by omega), fun y y1 y2 => by omega⟩
    obtain ⟨j, R5, rfl, haj, hji, rfl, rfl, r5, p5, ins5⟩ := inv3
    dsimp only
    repeat with_reducible first | refine jn_r ?_ | refine jb_r ?_ | refine jd_r ?_ | refine brT_r ?_ | refine brF_r ?_ | refine pickT_r ?_ | refine pickF_r ?_ | refine asB_r ?_ | refine asI_r ?_ | refine asS_r ?_ | refine asBUb_r ?_ | refine asBUs_r ?_ | refine lvS_r ?_
    refine fBE_r (show Bool.not (ltI (Int.ofNat m3) (Int.ofNat 1)) = decide (1 ≤ m3) from nlt) ?_
    have bn5 := p5.lt hen hs hR
    have out : (m3 = a ∨ R5 (m3 - 1) < R5 m3) → j93 (.slice b 0 n cap 1 ex, .int .i64 (Int.ofNat a), .int .i64 (Int.ofNat e), .int .i64 (Int.ofNat i), .int .i64 (Int.ofNat c), ()) [] h5 := fun hc' => hj _ _ _ ⟨R5, rfl, rfl, r5, p5, fun x y x1 x2 x3 => by
      by_cases xj : x = m3
      · subst xj; exact ins5.2 y x2 (by omega)
      · by_cases yj : y = m3
        · subst yj
          rcases hc' with c' | c'
          · omega
          · by_cases x1' : x = y - 1
            · rw [x1']; exact c'
            · exact Nat.lt_trans (ins5.1 x (y - 1) x1 (by omega) (by omega) xj (by omega)) c'
        · exact ins5.1 x y x1 x2 (by omega) xj yj⟩
    by_cases hj1 : 1 ≤ m3
    rotate_left
    · rw [decide_eq_false hj1]
      repeat with_reducible first | refine jn_r ?_ | refine jb_r ?_ | refine jd_r ?_ | refine brT_r ?_ | refine brF_r ?_ | refine pickT_r ?_ | refine pickF_r ?_ | refine asB_r ?_ | refine asI_r ?_ | refine asS_r ?_ | refine asBUb_r ?_ | refine asBUs_r ?_ | refine lvS_r ?_
      exact out (.inl (by omega))
    rw [decide_eq_true hj1]
    repeat with_reducible first | refine jn_r ?_ | refine jb_r ?_ | refine jd_r ?_ | refine brT_r ?_ | refine brF_r ?_ | refine pickT_r ?_ | refine pickF_r ?_ | refine asB_r ?_ | refine asI_r ?_ | refine asS_r ?_ | refine asBUb_r ?_ | refine asBUs_r ?_ | refine lvS_r ?_
    refine ix_r (by omega) ?_
    refine r5.ld (by omega) ?_
    repeat with_reducible first | refine jn_r ?_ | refine jb_r ?_ | refine jd_r ?_ | refine brT_r ?_ | refine brF_r ?_ | refine pickT_r ?_ | refine pickF_r ?_ | refine asB_r ?_ | refine asI_r ?_ | refine asS_r ?_ | refine asBUb_r ?_ | refine asBUs_r ?_ | refine lvS_r ?_
    refine fIE_r (dec_nat (by omega) (by omega)) ?_
    refine ix_r (by omega) ?_
    refine r5.ld (by omega) ?_
    refine q64 os (bn5 _ (by omega)) (bn5 _ (by omega)) ?_
    by_cases hl : R5 m3 < R5 (m3 - 1)
    rotate_left
    · rw [decide_eq_false hl]
      refine fBE_r (show Bool.not false = true from rfl) ?_
      repeat with_reducible first | refine jn_r ?_ | refine jb_r ?_ | refine jd_r ?_ | refine brT_r ?_ | refine brF_r ?_ | refine pickT_r ?_ | refine pickF_r ?_ | refine asB_r ?_ | refine asI_r ?_ | refine asS_r ?_ | refine asBUb_r ?_ | refine asBUs_r ?_ | refine lvS_r ?_
      refine out (.inr ?_)
      have : R5 m3 ≠ R5 (m3 - 1) := fun e' => by have := p5.inj hi m3 (m3 - 1) (by omega) (by omega) e'; omega
      omega
    rw [decide_eq_true hl]
    refine fBE_r (show Bool.not true = false from rfl) ?_
    repeat with_reducible first | refine jn_r ?_ | refine jb_r ?_ | refine jd_r ?_ | refine brT_r ?_ | refine brF_r ?_ | refine pickT_r ?_ | refine pickF_r ?_ | refine asB_r ?_ | refine asI_r ?_ | refine asS_r ?_ | refine asBUb_r ?_ | refine asBUs_r ?_ | refine lvS_r ?_
    have hja : a < m3 := by
      by_cases e' : m3 = a
      · subst e'
        have h1 := p5.out (m3 - 1) (.inl (by omega))
        have h2 := hpre (m3 - 1) (by omega)
        have h3 := (p5.seg hs m3 (Nat.le_refl _) hae).1
        omega
      · omega
    refine fIE_r (dec_nat (by omega) (by omega)) ?_
    repeat with_reducible first | refine jn_r ?_ | refine jb_r ?_ | refine jd_r ?_ | refine brT_r ?_ | refine brF_r ?_ | refine pickT_r ?_ | refine pickF_r ?_ | refine asB_r ?_ | refine asI_r ?_ | refine asS_r ?_ | refine asBUb_r ?_ | refine asBUs_r ?_ | refine lvS_r ?_
    refine fIE_r (dec_nat (by omega) (by omega)) ?_
    refine ix_r (by omega) ?_
    refine r5.ld (by omega) ?_
    refine ix_r (by omega) ?_
    refine r5.ld (by omega) ?_
    refine ix_r (by omega) ?_
    refine r5.st (by omega) fun h6 r6 => ?_
    refine ix_r (by omega) ?_
    refine r6.st (by omega) fun h7 r7 => ?_
    rw [swp_sym] at r7
    repeat with_reducible first | refine jn_r ?_ | refine jb_r ?_ | refine jd_r ?_ | refine brT_r ?_ | refine brF_r ?_ | refine pickT_r ?_ | refine pickF_r ?_ | refine asB_r ?_ | refine asI_r ?_ | refine asS_r ?_ | refine asBUb_r ?_ | refine asBUs_r ?_ | refine lvS_r ?_
    refine fIE_r (dec_nat (by omega) (by omega)) ?_
    exact next3 (m3 - 1) _ _ _ (by omega) ⟨m3 - 1, _, rfl, by omega, by omega, rfl, rfl, r7, p5.trans (Pin.swp (by omega) (by omega) (by omega) (by omega) hen), ins_swp ins5 (by omega) hji hl⟩
  · -- the shift to the right
    obtain ⟨R5, rfl, rfl, r5, p5, inc5⟩ := q
    dsimp only
    repeat with_reducible first | refine jn_r ?_ | refine jb_r ?_ | refine jd_r ?_ | refine brT_r ?_ | refine brF_r ?_ | refine pickT_r ?_ | refine pickF_r ?_ | refine asB_r ?_ | refine asI_r ?_ | refine asS_r ?_ | refine asBUb_r ?_ | refine asBUs_r ?_ | refine lvS_r ?_
    refine fIE_r (sub_nat (i := e) (j := i) (by omega) (by omega)) ?_
    refine fBE_r (show Bool.not (ltI (Int.ofNat (e - i)) (Int.ofNat 2)) = decide (2 ≤ e - i) from nlt) ?_
    by_cases h2i : 2 ≤ e - i
    rotate_left
    · rw [decide_eq_false h2i]
      repeat with_reducible first | refine jn_r ?_ | refine jb_r ?_ | refine jd_r ?_ | refine brT_r ?_ | refine brF_r ?_ | refine pickT_r ?_ | refine pickF_r ?_ | refine asB_r ?_ | refine asI_r ?_ | refine asS_r ?_ | refine asBUb_r ?_ | refine asBUs_r ?_ | refine lvS_r ?_
      exact nx r5 p5 inc5 hai (by omega)
    rw [decide_eq_true h2i]
    repeat with_reducible first | refine jn_r ?_ | refine jb_r ?_ | refine jd_r ?_ | refine brT_r ?_ | refine brF_r ?_ | refine pickT_r ?_ | refine pickF_r ?_ | refine asB_r ?_ | refine asI_r ?_ | refine asS_r ?_ | refine asBUb_r ?_ | refine asBUs_r ?_ | refine lvS_r ?_
    refine fIE_r (add_nat (i := i) (j := 1) (by omega)) ?_
    refine lp_rule (fun m v d h' => ∃ j R6, m = e - j ∧ i + 1 ≤ j ∧ v = (.slice b 0 n cap 1 ex, .int .i64 (Int.ofNat a), .int .i64 (Int.ofNat e), .int .i64 (Int.ofNat i), .int .i64 (Int.ofNat c), .int .i64 (Int.ofNat j), ()) ∧ d = [] ∧ RowR S b n h0 R6 h' ∧ Pin n a e R R6 ∧ Inc a i R6) (fun m3 self3 v3 d3 h6 inv3 next3 => ?_) (n := e - (i + 1)) (by show _ < 4611686018427387904; omega) ⟨i + 1, R5, rfl, Nat.le_refl _, rfl, rfl, r5, p5, inc5⟩
    obtain ⟨j, R6, rfl, hij, rfl, rfl, r6, p6, inc6⟩ := inv3
    dsimp only
    repeat with_reducible first | refine jn_r ?_ | refine jb_r ?_ | refine jd_r ?_ | refine brT_r ?_ | refine brF_r ?_ | refine pickT_r ?_ | refine pickF_r ?_ | refine asB_r ?_ | refine asI_r ?_ | refine asS_r ?_ | refine asBUb_r ?_ | refine asBUs_r ?_ | refine lvS_r ?_
    refine fBE_r ltD ?_
    have bn6 := p6.lt hen hs hR
    by_cases hje : j < e
    rotate_left
    · rw [decide_eq_false hje]
      repeat with_reducible first | refine jn_r ?_ | refine jb_r ?_ | refine jd_r ?_ | refine brT_r ?_ | refine brF_r ?_ | refine pickT_r ?_ | refine pickF_r ?_ | refine asB_r ?_ | refine asI_r ?_ | refine asS_r ?_ | refine asBUb_r ?_ | refine asBUs_r ?_ | refine lvS_r ?_
      exact nx r6 p6 inc6 hai (by omega)
    rw [decide_eq_true hje]
    repeat with_reducible first | refine jn_r ?_ | refine jb_r ?_ | refine jd_r ?_ | refine brT_r ?_ | refine brF_r ?_ | refine pickT_r ?_ | refine pickF_r ?_ | refine asB_r ?_ | refine asI_r ?_ | refine asS_r ?_ | refine asBUb_r ?_ | refine asBUs_r ?_ | refine lvS_r ?_
    refine ix_r (by omega) ?_
    refine r6.ld (by omega) ?_
    repeat with_reducible first | refine jn_r ?_ | refine jb_r ?_ | refine jd_r ?_ | refine brT_r ?_ | refine brF_r ?_ | refine pickT_r ?_ | refine pickF_r ?_ | refine asB_r ?_ | refine asI_r ?_ | refine asS_r ?_ | refine asBUb_r ?_ | refine asBUs_r ?_ | refine lvS_r ?_
    refine fIE_r (dec_nat (by omega) (by omega)) ?_
    refine ix_r (by omega) ?_
    refine r6.ld (by omega) ?_
    refine q64 os (bn6 _ (by omega)) (bn6 _ (by omega)) ?_
    refine fB_r ?_
    refine br_intro (fun _ => ?_) fun _ => ?_
    · repeat with_reducible first | refine jn_r ?_ | refine jb_r ?_ | refine jd_r ?_ | refine brT_r ?_ | refine brF_r ?_ | refine pickT_r ?_ | refine pickF_r ?_ | refine asB_r ?_ | refine asI_r ?_ | refine asS_r ?_ | refine asBUb_r ?_ | refine asBUs_r ?_ | refine lvS_r ?_
      exact nx r6 p6 inc6 hai (by omega)
    repeat with_reducible first | refine jn_r ?_ | refine jb_r ?_ | refine jd_r ?_ | refine brT_r ?_ | refine brF_r ?_ | refine pickT_r ?_ | refine pickF_r ?_ | refine asB_r ?_ | refine asI_r ?_ | refine asS_r ?_ | refine asBUb_r ?_ | refine asBUs_r ?_ | refine lvS_r ?_
    refine fIE_r (dec_nat (by omega) (by omega)) ?_
    repeat with_reducible first | refine jn_r ?_ | refine jb_r ?_ | refine jd_r ?_ | refine brT_r ?_ | refine brF_r ?_ | refine pickT_r ?_ | refine pickF_r ?_ | refine asB_r ?_ | refine asI_r ?_ | refine asS_r ?_ | refine asBUb_r ?_ | refine asBUs_r ?_ | refine lvS_r ?_
    refine fIE_r (dec_nat (by omega) (by omega)) ?_
    refine ix_r (by omega) ?_
    refine r6.ld (by omega) ?_
    refine ix_r (by omega) ?_
    refine r6.ld (by omega) ?_
    refine ix_r (by omega) ?_
    refine r6.st (by omega) fun h7 r7 => ?_
    refine ix_r (by omega) ?_
    refine r7.st (by omega) fun h8 r8 => ?_
    rw [swp_sym] at r8
    repeat with_reducible first | refine jn_r ?_ | refine jb_r ?_ | refine jd_r ?_ | refine brT_r ?_ | refine brF_r ?_ | refine pickT_r ?_ | refine pickF_r ?_ | refine asB_r ?_ | refine asI_r ?_ | refine asS_r ?_ | refine asBUb_r ?_ | refine asBUs_r ?_ | refine lvS_r ?_
    refine fIE_r (add_nat (i := j) (j := 1) (by omega)) ?_
    refine next3 (e - (j + 1)) _ _ _ (by omega) ⟨j + 1, _, rfl, by omega, rfl, rfl, r8, p6.trans (Pin.swp (by omega) (by omega) (by omega) (by omega) hen), fun x y x1 x2 x3 => ?_⟩
    have e8 : ∀ x, swp R6 (j - 1) j x = if x = j then R6 (j - 1) else if x = j - 1 then R6 j else R6 x := fun x => rfl
    rw [e8, e8, if_neg (by omega), if_neg (by omega), if_neg (by omega), if_neg (by omega)]
    exact inc6 x y x1 x2 x3
end Go.Proofs.Ytiejkbmobmgdkaa
