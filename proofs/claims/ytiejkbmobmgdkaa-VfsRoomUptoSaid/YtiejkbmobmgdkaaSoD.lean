/- A part is parted at a pivot. No condition. -/
import Derived.Test.YtiejkbmobmgdkaaSoC
namespace Go.Am
open Go
set_option linter.all false
/-- what is parted so far: below i smaller ones, above j greater ones -/
structure Par (a e i j : Nat) (R : Nat → Nat) : Prop where
  ai : a + 1 ≤ i
  ij : i ≤ j + 1
  je : j < e
  aj : a ≤ j
  low : ∀ k, a + 1 ≤ k → k < i → R k < R a
  high : ∀ k, j < k → k < e → R a < R k
theorem Par.swap {a e i j : Nat} {R : Nat → Nat} (p : Par a e i j R) (hij : i < j) (h1 : R a < R i) (h2 : R j < R a) : Par a e (i + 1) (j - 1) (swp R i j) := by
  have e : ∀ k, swp R i j k = if k = j then R i else if k = i then R j else R k := fun k => rfl
  have ha : swp R i j a = R a := by rw [e, if_neg (by have := p.ai; omega), if_neg (by have := p.ai; omega)]
  refine ⟨by have := p.ai; omega, by omega, by have := p.je; omega, by have := p.ai; omega, fun k k1 k2 => ?_, fun k k1 k2 => ?_⟩
  · rw [ha, e, if_neg (by omega)]
    by_cases ki : k = i
    · rw [if_pos ki]; exact h2
    · rw [if_neg ki]; exact p.low k k1 (by omega)
  · rw [ha, e]
    by_cases kj : k = j
    · rw [if_pos kj]; exact h1
    · rw [if_neg kj, if_neg (by omega)]; exact p.high k (by omega) k2
theorem Par.done {a e i j : Nat} {R : Nat → Nat} (p : Par a e i j R) (hij : j < i) : (∀ k, a ≤ k → k < j → swp R j a k < swp R j a j) ∧ ∀ k, j < k → k < e → swp R j a j < swp R j a k := by
  have e : ∀ k, swp R j a k = if k = a then R j else if k = j then R a else R k := fun k => rfl
  have hj : swp R j a j = R a := by
    rw [e]
    by_cases ja : j = a
    · rw [if_pos ja, ja]
    · rw [if_neg ja, if_pos rfl]
  refine ⟨fun k k1 k2 => ?_, fun k k1 k2 => ?_⟩
  · rw [hj, e]
    by_cases ka : k = a
    · rw [if_pos ka]; exact p.low j (by omega) hij
    · rw [if_neg ka, if_neg (by omega)]; exact p.low k (by omega) (by omega)
  · rw [hj, e, if_neg (by have := p.aj; omega), if_neg (by omega)]
    exact p.high k k1 k2
end Go.Am
namespace Go.Proofs.Ytiejkbmobmgdkaa
open Go Go.Am
set_option linter.all false
set_option maxRecDepth 100000
theorem q66 {S : Nat → Str} {b n cap : Nat} {ex : Bool} {h0 h : H} {R : Nat → Nat} {a e pv : Nat} {k : Int → Bool → H → Prop} (os : OrdS S n) (hn : n < 1000000) (r : RowR S b n h0 R h) (hs : Seg a e R) (hR : ∀ k, k < n → R k < n) (hi : InjN n R) (hae : a < e) (hen : e ≤ n) (hp1 : a ≤ pv) (hp2 : pv < e)
    (hk : ∀ mid t h' R', a ≤ mid → mid < e → RowR S b n h0 R' h' → Pin n a e R R' → (∀ x, a ≤ x → x < mid → R' x < R' mid) → (∀ x, mid < x → x < e → R' mid < R' x) → k (Int.ofNat mid) t h') : s66 (.slice b 0 n cap 1 ex) (Int.ofNat a) (Int.ofNat e) (Int.ofNat pv) h k := by
  show s66G J0 s64 _ _ _ _ h k
  unfold s66G
  refine ix_r (by omega) ?_
  refine r.ld (by omega) ?_
  refine ix_r (by omega) ?_
  refine r.ld (by omega) ?_
  refine ix_r (by omega) ?_
  refine r.st (by omega) fun h3 r3 => ?_
  refine ix_r (by omega) ?_
  refine r3.st (by omega) fun h4 r4 => ?_
  have r4 : RowR S b n h0 (swp R a pv) h4 := r4
  have p4 : Pin n a e R (swp R a pv) := Pin.swp (Nat.le_refl _) hae hp1 hp2 hen
  refine fIE_r (add_nat (i := a) (j := 1) (by omega)) ?_
  refine fIE_r (dec_nat (by omega) (by omega)) ?_
  have par4 : Par a e (a + 1) (e - 1) (swp R a pv) := ⟨Nat.le_refl _, by omega, by omega, by omega, fun k k1 k2 => by omega, fun k k1 k2 => by omega⟩
  generalize swp R a pv = R4 at r4 p4 par4
  clear r r3
  -- the last step
  have fin : ∀ {i j : Nat} {R5 : Nat → Nat} {h5 : H} (t : Bool), RowR S b n h0 R5 h5 → Pin n a e R R5 → Par a e i j R5 → j < i →
      ixK 1 (.slice b 0 n cap 1 ex) (.int .i64 (Int.ofNat a)) fun p109 => ldS p109 h5 fun s110 => ixK 1 (.slice b 0 n cap 1 ex) (.int .i64 (Int.ofNat j)) fun p111 => ldS p111 h5 fun s112 => ixK 1 (.slice b 0 n cap 1 ex) (.int .i64 (Int.ofNat j)) fun p113 => stV p113 (AV.str s110) h5 fun h114 => ixK 1 (.slice b 0 n cap 1 ex) (.int .i64 (Int.ofNat a)) fun p115 => stV p115 (AV.str s112) h114 fun h116 =>
        leaveK (gam J0 [(64, w64 s64)]) [] h116 fun h117 => asI .i64 (.int .i64 (Int.ofNat j)) fun x118 => k x118 t h117 := by
    intro i j R5 h5 t r5 p5 par hij
    have hje := par.je
    have haj := par.aj
    refine ix_r (by omega) ?_
    refine r5.ld (by omega) ?_
    refine ix_r (by omega) ?_
    refine r5.ld (by omega) ?_
    refine ix_r (by omega) ?_
    refine r5.st (by omega) fun h6 r6 => ?_
    refine ix_r (by omega) ?_
    refine r6.st (by omega) fun h7 r7 => ?_
    repeat with_reducible first | refine jn_r ?_ | refine jb_r ?_ | refine jd_r ?_ | refine brT_r ?_ | refine brF_r ?_ | refine pickT_r ?_ | refine pickF_r ?_ | refine asB_r ?_ | refine asI_r ?_ | refine asS_r ?_ | refine asBUb_r ?_ | refine asBUs_r ?_ | refine lvS_r ?_
    have r7 : RowR S b n h0 (swp R5 j a) h7 := r7
    have q := par.done hij
    exact hk j t h7 _ haj hje r7 (p5.trans (Pin.swp haj hje (Nat.le_refl _) hae hen)) q.1 q.2
  refine lp_rule (fun m v d h' => ∃ i, m = e - i ∧ v = (.slice b 0 n cap 1 ex, .int .i64 (Int.ofNat a), .int .i64 (Int.ofNat i), .int .i64 (Int.ofNat (e - 1)), ()) ∧ d = [] ∧ h' = h4 ∧ Par a e i (e - 1) R4 ∧ (a + 1) ≤ i) (fun m1 self1 v1 d1 hx1 inv1 next1 => ?_) (n := e - (a + 1)) (by show _ < 4611686018427387904; omega) ⟨(a + 1), rfl, rfl, rfl, rfl, par4, Nat.le_refl _⟩
  obtain ⟨i, rfl, rfl, rfl, rfl, pari, hi0⟩ := inv1
  dsimp only
  repeat with_reducible first | refine jn_r ?_ | refine jb_r ?_ | refine jd_r ?_ | refine brT_r ?_ | refine brF_r ?_ | refine pickT_r ?_ | refine pickF_r ?_ | refine asB_r ?_ | refine asI_r ?_ | refine asS_r ?_ | refine asBUb_r ?_ | refine asBUs_r ?_ | refine lvS_r ?_
  refine fBE_r nlt ?_
  have bn4 := p4.lt hen hs hR
  have pai := pari.ai
  have paj := pari.je
  have pij := pari.ij
  have hia : ∀ x, a < x → x < e → R4 x ≠ R4 a := fun x x1 x2 e' => by have := p4.inj hi x a (by omega) (by omega) e'; omega
  suffices go : ((e - 1) < i ∨ R4 a < R4 i) → _ by
    by_cases hij : i ≤ (e - 1)
    · rw [decide_eq_true hij]
      repeat with_reducible first | refine jn_r ?_ | refine jb_r ?_ | refine jd_r ?_ | refine brT_r ?_ | refine brF_r ?_ | refine pickT_r ?_ | refine pickF_r ?_ | refine asB_r ?_ | refine asI_r ?_ | refine asS_r ?_ | refine asBUb_r ?_ | refine asBUs_r ?_ | refine lvS_r ?_
      refine ix_r (by omega) ?_
      repeat with_reducible first | refine jn_r ?_ | refine jb_r ?_ | refine jd_r ?_ | refine brT_r ?_ | refine brF_r ?_ | refine pickT_r ?_ | refine pickF_r ?_ | refine asB_r ?_ | refine asI_r ?_ | refine asS_r ?_ | refine asBUb_r ?_ | refine asBUs_r ?_ | refine lvS_r ?_
      refine r4.ld (by omega) ?_
      repeat with_reducible first | refine jn_r ?_ | refine jb_r ?_ | refine jd_r ?_ | refine brT_r ?_ | refine brF_r ?_ | refine pickT_r ?_ | refine pickF_r ?_ | refine asB_r ?_ | refine asI_r ?_ | refine asS_r ?_ | refine asBUb_r ?_ | refine asBUs_r ?_ | refine lvS_r ?_
      refine ix_r (by omega) ?_
      repeat with_reducible first | refine jn_r ?_ | refine jb_r ?_ | refine jd_r ?_ | refine brT_r ?_ | refine brF_r ?_ | refine pickT_r ?_ | refine pickF_r ?_ | refine asB_r ?_ | refine asI_r ?_ | refine asS_r ?_ | refine asBUb_r ?_ | refine asBUs_r ?_ | refine lvS_r ?_
      refine r4.ld (by omega) ?_
      repeat with_reducible first | refine jn_r ?_ | refine jb_r ?_ | refine jd_r ?_ | refine brT_r ?_ | refine brF_r ?_ | refine pickT_r ?_ | refine pickF_r ?_ | refine asB_r ?_ | refine asI_r ?_ | refine asS_r ?_ | refine asBUb_r ?_ | refine asBUs_r ?_ | refine lvS_r ?_
      refine q64 os (bn4 _ (by omega)) (bn4 _ (by omega)) ?_
      repeat with_reducible first | refine jn_r ?_ | refine jb_r ?_ | refine jd_r ?_ | refine brT_r ?_ | refine brF_r ?_ | refine pickT_r ?_ | refine pickF_r ?_ | refine asB_r ?_ | refine asI_r ?_ | refine asS_r ?_ | refine asBUb_r ?_ | refine asBUs_r ?_ | refine lvS_r ?_
      by_cases hl : R4 i < R4 a
      · rw [decide_eq_true hl]
        repeat with_reducible first | refine jn_r ?_ | refine jb_r ?_ | refine jd_r ?_ | refine brT_r ?_ | refine brF_r ?_ | refine pickT_r ?_ | refine pickF_r ?_ | refine asB_r ?_ | refine asI_r ?_ | refine asS_r ?_ | refine asBUb_r ?_ | refine asBUs_r ?_ | refine lvS_r ?_
        refine fIE_r (add_nat (i := i) (j := 1) (by omega)) ?_
        exact next1 (e - (i + 1)) _ _ _ (by omega) ⟨i + 1, rfl, rfl, rfl, rfl, ⟨by omega, by omega, paj, pari.aj, fun k k1 k2 => by
          by_cases ki : k = i
          · rw [ki]; exact hl
          · exact pari.low k k1 (by omega), pari.high⟩, by omega⟩
      · rw [decide_eq_false hl]
        repeat with_reducible first | refine jn_r ?_ | refine jb_r ?_ | refine jd_r ?_ | refine brT_r ?_ | refine brF_r ?_ | refine pickT_r ?_ | refine pickF_r ?_ | refine asB_r ?_ | refine asI_r ?_ | refine asS_r ?_ | refine asBUb_r ?_ | refine asBUs_r ?_ | refine lvS_r ?_
        exact go (.inr (by have := hia i (by omega) (by omega); omega))
    · rw [decide_eq_false hij]
      repeat with_reducible first | refine jn_r ?_ | refine jb_r ?_ | refine jd_r ?_ | refine brT_r ?_ | refine brF_r ?_ | refine pickT_r ?_ | refine pickF_r ?_ | refine asB_r ?_ | refine asI_r ?_ | refine asS_r ?_ | refine asBUb_r ?_ | refine asBUs_r ?_ | refine lvS_r ?_
      exact go (.inl (by omega))
  intro hi1
  refine lp_rule (fun m v d h' => ∃ j, m = j + 1 - i ∧ v = (.slice b 0 n cap 1 ex, .int .i64 (Int.ofNat a), .int .i64 (Int.ofNat i), .int .i64 (Int.ofNat j), ()) ∧ d = [] ∧ h' = hx1 ∧ Par a e i j R4 ∧ j ≤ (e - 1)) (fun m1j self1j v1j d1j hx1j inv1j next1j => ?_) (n := (e - 1) + 1 - i) (by show _ < 4611686018427387904; omega) ⟨(e - 1), rfl, rfl, rfl, rfl, pari, Nat.le_refl _⟩
  obtain ⟨j, rfl, rfl, rfl, rfl, par, hj0⟩ := inv1j
  dsimp only
  repeat with_reducible first | refine jn_r ?_ | refine jb_r ?_ | refine jd_r ?_ | refine brT_r ?_ | refine brF_r ?_ | refine pickT_r ?_ | refine pickF_r ?_ | refine asB_r ?_ | refine asI_r ?_ | refine asS_r ?_ | refine asBUb_r ?_ | refine asBUs_r ?_ | refine lvS_r ?_
  refine fBE_r nlt ?_
  have qij := par.ij
  have qje := par.je
  suffices go : (j < i ∨ R4 j < R4 a) → _ by
    by_cases hij : i ≤ j
    · rw [decide_eq_true hij]
      repeat with_reducible first | refine jn_r ?_ | refine jb_r ?_ | refine jd_r ?_ | refine brT_r ?_ | refine brF_r ?_ | refine pickT_r ?_ | refine pickF_r ?_ | refine asB_r ?_ | refine asI_r ?_ | refine asS_r ?_ | refine asBUb_r ?_ | refine asBUs_r ?_ | refine lvS_r ?_
      refine ix_r (by omega) ?_
      repeat with_reducible first | refine jn_r ?_ | refine jb_r ?_ | refine jd_r ?_ | refine brT_r ?_ | refine brF_r ?_ | refine pickT_r ?_ | refine pickF_r ?_ | refine asB_r ?_ | refine asI_r ?_ | refine asS_r ?_ | refine asBUb_r ?_ | refine asBUs_r ?_ | refine lvS_r ?_
      refine r4.ld (by omega) ?_
      repeat with_reducible first | refine jn_r ?_ | refine jb_r ?_ | refine jd_r ?_ | refine brT_r ?_ | refine brF_r ?_ | refine pickT_r ?_ | refine pickF_r ?_ | refine asB_r ?_ | refine asI_r ?_ | refine asS_r ?_ | refine asBUb_r ?_ | refine asBUs_r ?_ | refine lvS_r ?_
      refine ix_r (by omega) ?_
      repeat with_reducible first | refine jn_r ?_ | refine jb_r ?_ | refine jd_r ?_ | refine brT_r ?_ | refine brF_r ?_ | refine pickT_r ?_ | refine pickF_r ?_ | refine asB_r ?_ | refine asI_r ?_ | refine asS_r ?_ | refine asBUb_r ?_ | refine asBUs_r ?_ | refine lvS_r ?_
      refine r4.ld (by omega) ?_
      repeat with_reducible first | refine jn_r ?_ | refine jb_r ?_ | refine jd_r ?_ | refine brT_r ?_ | refine brF_r ?_ | refine pickT_r ?_ | refine pickF_r ?_ | refine asB_r ?_ | refine asI_r ?_ | refine asS_r ?_ | refine asBUb_r ?_ | refine asBUs_r ?_ | refine lvS_r ?_
      refine q64 os (bn4 _ (by omega)) (bn4 _ (by omega)) ?_
      repeat with_reducible first | refine jn_r ?_ | refine jb_r ?_ | refine jd_r ?_ | refine brT_r ?_ | refine brF_r ?_ | refine pickT_r ?_ | refine pickF_r ?_ | refine asB_r ?_ | refine asI_r ?_ | refine asS_r ?_ | refine asBUb_r ?_ | refine asBUs_r ?_ | refine lvS_r ?_
      by_cases hl : R4 j < R4 a
      · rw [decide_eq_true hl]
        repeat with_reducible first | refine jn_r ?_ | refine jb_r ?_ | refine jd_r ?_ | refine brT_r ?_ | refine brF_r ?_ | refine pickT_r ?_ | refine pickF_r ?_ | refine asB_r ?_ | refine asI_r ?_ | refine asS_r ?_ | refine asBUb_r ?_ | refine asBUs_r ?_ | refine lvS_r ?_
        refine fBE_r (show Bool.not true = false from rfl) ?_
        repeat with_reducible first | refine jn_r ?_ | refine jb_r ?_ | refine jd_r ?_ | refine brT_r ?_ | refine brF_r ?_ | refine pickT_r ?_ | refine pickF_r ?_ | refine asB_r ?_ | refine asI_r ?_ | refine asS_r ?_ | refine asBUb_r ?_ | refine asBUs_r ?_ | refine lvS_r ?_
        exact go (.inr hl)
      · rw [decide_eq_false hl]
        repeat with_reducible first | refine jn_r ?_ | refine jb_r ?_ | refine jd_r ?_ | refine brT_r ?_ | refine brF_r ?_ | refine pickT_r ?_ | refine pickF_r ?_ | refine asB_r ?_ | refine asI_r ?_ | refine asS_r ?_ | refine asBUb_r ?_ | refine asBUs_r ?_ | refine lvS_r ?_
        refine fBE_r (show Bool.not false = true from rfl) ?_
        repeat with_reducible first | refine jn_r ?_ | refine jb_r ?_ | refine jd_r ?_ | refine brT_r ?_ | refine brF_r ?_ | refine pickT_r ?_ | refine pickF_r ?_ | refine asB_r ?_ | refine asI_r ?_ | refine asS_r ?_ | refine asBUb_r ?_ | refine asBUs_r ?_ | refine lvS_r ?_
        refine fIE_r (dec_nat (by omega) (by omega)) ?_
        exact next1j (j - 1 + 1 - i) _ _ _ (by omega) ⟨j - 1, rfl, rfl, rfl, rfl, ⟨pai, by omega, by omega, by omega, par.low, fun k k1 k2 => by
          by_cases kj : k = j
          · rw [kj]; have := hia j (by omega) (by omega); omega
          · exact par.high k (by omega) k2⟩, by omega⟩
    · rw [decide_eq_false hij]
      repeat with_reducible first | refine jn_r ?_ | refine jb_r ?_ | refine jd_r ?_ | refine brT_r ?_ | refine brF_r ?_ | refine pickT_r ?_ | refine pickF_r ?_ | refine asB_r ?_ | refine asI_r ?_ | refine asS_r ?_ | refine asBUb_r ?_ | refine asBUs_r ?_ | refine lvS_r ?_
      exact go (.inl (by omega))
  intro hj1
  repeat with_reducible first | refine jn_r ?_ | refine jb_r ?_ | refine jd_r ?_ | refine brT_r ?_ | refine brF_r ?_ | refine pickT_r ?_ | refine pickF_r ?_ | refine asB_r ?_ | refine asI_r ?_ | refine asS_r ?_ | refine asBUb_r ?_ | refine asBUs_r ?_ | refine lvS_r ?_
  refine fBE_r ltD ?_
  by_cases hji : j < i
  · rw [decide_eq_true hji]
    repeat with_reducible first | refine jn_r ?_ | refine jb_r ?_ | refine jd_r ?_ | refine brT_r ?_ | refine brF_r ?_ | refine pickT_r ?_ | refine pickF_r ?_ | refine asB_r ?_ | refine asI_r ?_ | refine asS_r ?_ | refine asBUb_r ?_ | refine asBUs_r ?_ | refine lvS_r ?_
    exact fin true r4 p4 par hji
  rw [decide_eq_false hji]
  repeat with_reducible first | refine jn_r ?_ | refine jb_r ?_ | refine jd_r ?_ | refine brT_r ?_ | refine brF_r ?_ | refine pickT_r ?_ | refine pickF_r ?_ | refine asB_r ?_ | refine asI_r ?_ | refine asS_r ?_ | refine asBUb_r ?_ | refine asBUs_r ?_ | refine lvS_r ?_
  have g1 : R4 a < R4 i := hi1.resolve_left (by omega)
  have g2 : R4 j < R4 a := hj1.resolve_left hji
  have hij : i < j := by
    by_cases e' : i = j
    · subst e'; omega
    · omega
  refine ix_r (by omega) ?_
  refine r4.ld (by omega) ?_
  refine ix_r (by omega) ?_
  refine r4.ld (by omega) ?_
  refine ix_r (by omega) ?_
  refine r4.st (by omega) fun h7 r7 => ?_
  refine ix_r (by omega) ?_
  refine r7.st (by omega) fun h8 r8 => ?_
  have r8 : RowR S b n h0 (swp R4 i j) h8 := r8
  have p8 : Pin n a e R (swp R4 i j) := p4.trans (Pin.swp (by omega) (by omega) (by omega) (by omega) hen)
  have par8 := par.swap hij g1 g2
  repeat with_reducible first | refine jn_r ?_ | refine jb_r ?_ | refine jd_r ?_ | refine brT_r ?_ | refine brF_r ?_ | refine pickT_r ?_ | refine pickF_r ?_ | refine asB_r ?_ | refine asI_r ?_ | refine asS_r ?_ | refine asBUb_r ?_ | refine asBUs_r ?_ | refine lvS_r ?_
  refine fIE_r (add_nat (i := i) (j := 1) (by omega)) ?_
  repeat with_reducible first | refine jn_r ?_ | refine jb_r ?_ | refine jd_r ?_ | refine brT_r ?_ | refine brF_r ?_ | refine pickT_r ?_ | refine pickF_r ?_ | refine asB_r ?_ | refine asI_r ?_ | refine asS_r ?_ | refine asBUb_r ?_ | refine asBUs_r ?_ | refine lvS_r ?_
  refine fIE_r (dec_nat (by omega) (by omega)) ?_
  -- and so on
  refine lp_rule (fun m v d h' => ∃ i j R', m = j + 1 - i ∧ v = (.slice b 0 n cap 1 ex, .int .i64 (Int.ofNat a), .int .i64 (Int.ofNat i), .int .i64 (Int.ofNat j), ()) ∧ d = [] ∧ RowR S b n h0 R' h' ∧ Pin n a e R R' ∧ Par a e i j R') (fun m self v d hc inv next => ?_) (n := j - 1 + 1 - (i + 1)) (by show _ < 4611686018427387904; omega) ⟨i + 1, j - 1, _, rfl, rfl, rfl, r8, p8, par8⟩
  obtain ⟨i3, j3, R4, rfl, rfl, rfl, r4, p4, par4⟩ := inv
  dsimp only
  refine lp_rule (fun m v d h' => ∃ i, m = e - i ∧ v = (.slice b 0 n cap 1 ex, .int .i64 (Int.ofNat a), .int .i64 (Int.ofNat i), .int .i64 (Int.ofNat j3), ()) ∧ d = [] ∧ h' = hc ∧ Par a e i j3 R4 ∧ i3 ≤ i) (fun m2 self2 v2 d2 hx2 inv2 next2 => ?_) (n := e - i3) (by show _ < 4611686018427387904; omega) ⟨i3, rfl, rfl, rfl, rfl, par4, Nat.le_refl _⟩
  obtain ⟨i, rfl, rfl, rfl, rfl, pari, hi0⟩ := inv2
  dsimp only
  repeat with_reducible first | refine jn_r ?_ | refine jb_r ?_ | refine jd_r ?_ | refine brT_r ?_ | refine brF_r ?_ | refine pickT_r ?_ | refine pickF_r ?_ | refine asB_r ?_ | refine asI_r ?_ | refine asS_r ?_ | refine asBUb_r ?_ | refine asBUs_r ?_ | refine lvS_r ?_
  refine fBE_r nlt ?_
  have bn4 := p4.lt hen hs hR
  have pai := pari.ai
  have paj := pari.je
  have pij := pari.ij
  have hia : ∀ x, a < x → x < e → R4 x ≠ R4 a := fun x x1 x2 e' => by have := p4.inj hi x a (by omega) (by omega) e'; omega
  suffices go : (j3 < i ∨ R4 a < R4 i) → _ by
    by_cases hij : i ≤ j3
    · rw [decide_eq_true hij]
      repeat with_reducible first | refine jn_r ?_ | refine jb_r ?_ | refine jd_r ?_ | refine brT_r ?_ | refine brF_r ?_ | refine pickT_r ?_ | refine pickF_r ?_ | refine asB_r ?_ | refine asI_r ?_ | refine asS_r ?_ | refine asBUb_r ?_ | refine asBUs_r ?_ | refine lvS_r ?_
      refine ix_r (by omega) ?_
      repeat with_reducible first | refine jn_r ?_ | refine jb_r ?_ | refine jd_r ?_ | refine brT_r ?_ | refine brF_r ?_ | refine pickT_r ?_ | refine pickF_r ?_ | refine asB_r ?_ | refine asI_r ?_ | refine asS_r ?_ | refine asBUb_r ?_ | refine asBUs_r ?_ | refine lvS_r ?_
      refine r4.ld (by omega) ?_
      repeat with_reducible first | refine jn_r ?_ | refine jb_r ?_ | refine jd_r ?_ | refine brT_r ?_ | refine brF_r ?_ | refine pickT_r ?_ | refine pickF_r ?_ | refine asB_r ?_ | refine asI_r ?_ | refine asS_r ?_ | refine asBUb_r ?_ | refine asBUs_r ?_ | refine lvS_r ?_
      refine ix_r (by omega) ?_
      repeat with_reducible first | refine jn_r ?_ | refine jb_r ?_ | refine jd_r ?_ | refine brT_r ?_ | refine brF_r ?_ | refine pickT_r ?_ | refine pickF_r ?_ | refine asB_r ?_ | refine asI_r ?_ | refine asS_r ?_ | refine asBUb_r ?_ | refine asBUs_r ?_ | refine lvS_r ?_
      refine r4.ld (by omega) ?_
      repeat with_reducible first | refine jn_r ?_ | refine jb_r ?_ | refine jd_r ?_ | refine brT_r ?_ | refine brF_r ?_ | refine pickT_r ?_ | refine pickF_r ?_ | refine asB_r ?_ | refine asI_r ?_ | refine asS_r ?_ | refine asBUb_r ?_ | refine asBUs_r ?_ | refine lvS_r ?_
      refine q64 os (bn4 _ (by omega)) (bn4 _ (by omega)) ?_
      repeat with_reducible first | refine jn_r ?_ | refine jb_r ?_ | refine jd_r ?_ | refine brT_r ?_ | refine brF_r ?_ | refine pickT_r ?_ | refine pickF_r ?_ | refine asB_r ?_ | refine asI_r ?_ | refine asS_r ?_ | refine asBUb_r ?_ | refine asBUs_r ?_ | refine lvS_r ?_
      by_cases hl : R4 i < R4 a
      · rw [decide_eq_true hl]
        repeat with_reducible first | refine jn_r ?_ | refine jb_r ?_ | refine jd_r ?_ | refine brT_r ?_ | refine brF_r ?_ | refine pickT_r ?_ | refine pickF_r ?_ | refine asB_r ?_ | refine asI_r ?_ | refine asS_r ?_ | refine asBUb_r ?_ | refine asBUs_r ?_ | refine lvS_r ?_
        refine fIE_r (add_nat (i := i) (j := 1) (by omega)) ?_
        exact next2 (e - (i + 1)) _ _ _ (by omega) ⟨i + 1, rfl, rfl, rfl, rfl, ⟨by omega, by omega, paj, pari.aj, fun k k1 k2 => by
          by_cases ki : k = i
          · rw [ki]; exact hl
          · exact pari.low k k1 (by omega), pari.high⟩, by omega⟩
      · rw [decide_eq_false hl]
        repeat with_reducible first | refine jn_r ?_ | refine jb_r ?_ | refine jd_r ?_ | refine brT_r ?_ | refine brF_r ?_ | refine pickT_r ?_ | refine pickF_r ?_ | refine asB_r ?_ | refine asI_r ?_ | refine asS_r ?_ | refine asBUb_r ?_ | refine asBUs_r ?_ | refine lvS_r ?_
        exact go (.inr (by have := hia i (by omega) (by omega); omega))
    · rw [decide_eq_false hij]
      repeat with_reducible first | refine jn_r ?_ | refine jb_r ?_ | refine jd_r ?_ | refine brT_r ?_ | refine brF_r ?_ | refine pickT_r ?_ | refine pickF_r ?_ | refine asB_r ?_ | refine asI_r ?_ | refine asS_r ?_ | refine asBUb_r ?_ | refine asBUs_r ?_ | refine lvS_r ?_
      exact go (.inl (by omega))
  intro hi1
  refine lp_rule (fun m v d h' => ∃ j, m = j + 1 - i ∧ v = (.slice b 0 n cap 1 ex, .int .i64 (Int.ofNat a), .int .i64 (Int.ofNat i), .int .i64 (Int.ofNat j), ()) ∧ d = [] ∧ h' = hx2 ∧ Par a e i j R4 ∧ j ≤ j3) (fun m2j self2j v2j d2j hx2j inv2j next2j => ?_) (n := j3 + 1 - i) (by show _ < 4611686018427387904; omega) ⟨j3, rfl, rfl, rfl, rfl, pari, Nat.le_refl _⟩
  obtain ⟨j, rfl, rfl, rfl, rfl, par, hj0⟩ := inv2j
  dsimp only
  repeat with_reducible first | refine jn_r ?_ | refine jb_r ?_ | refine jd_r ?_ | refine brT_r ?_ | refine brF_r ?_ | refine pickT_r ?_ | refine pickF_r ?_ | refine asB_r ?_ | refine asI_r ?_ | refine asS_r ?_ | refine asBUb_r ?_ | refine asBUs_r ?_ | refine lvS_r ?_
  refine fBE_r nlt ?_
  have qij := par.ij
  have qje := par.je
  suffices go : (j < i ∨ R4 j < R4 a) → _ by
    by_cases hij : i ≤ j
    · rw [decide_eq_true hij]
      repeat with_reducible first | refine jn_r ?_ | refine jb_r ?_ | refine jd_r ?_ | refine brT_r ?_ | refine brF_r ?_ | refine pickT_r ?_ | refine pickF_r ?_ | refine asB_r ?_ | refine asI_r ?_ | refine asS_r ?_ | refine asBUb_r ?_ | refine asBUs_r ?_ | refine lvS_r ?_
      refine ix_r (by omega) ?_
      repeat with_reducible first | refine jn_r ?_ | refine jb_r ?_ | refine jd_r ?_ | refine brT_r ?_ | refine brF_r ?_ | refine pickT_r ?_ | refine pickF_r ?_ | refine asB_r ?_ | refine asI_r ?_ | refine asS_r ?_ | refine asBUb_r ?_ | refine asBUs_r ?_ | refine lvS_r ?_
      refine r4.ld (by omega) ?_
      repeat with_reducible first | refine jn_r ?_ | refine jb_r ?_ | refine jd_r ?_ | refine brT_r ?_ | refine brF_r ?_ | refine pickT_r ?_ | refine pickF_r ?_ | refine asB_r ?_ | refine asI_r ?_ | refine asS_r ?_ | refine asBUb_r ?_ | refine asBUs_r ?_ | refine lvS_r ?_
      refine ix_r (by omega) ?_
      repeat with_reducible first | refine jn_r ?_ | refine jb_r ?_ | refine jd_r ?_ | refine brT_r ?_ | refine brF_r ?_ | refine pickT_r ?_ | refine pickF_r ?_ | refine asB_r ?_ | refine asI_r ?_ | refine asS_r ?_ | refine asBUb_r ?_ | refine asBUs_r ?_ | refine lvS_r ?_
      refine r4.ld (by omega) ?_
      repeat with_reducible first | refine jn_r ?_ | refine jb_r ?_ | refine jd_r ?_ | refine brT_r ?_ | refine brF_r ?_ | refine pickT_r ?_ | refine pickF_r ?_ | refine asB_r ?_ | refine asI_r ?_ | refine asS_r ?_ | refine asBUb_r ?_ | refine asBUs_r ?_ | refine lvS_r ?_
      refine q64 os (bn4 _ (by omega)) (bn4 _ (by omega)) ?_
      repeat with_reducible first | refine jn_r ?_ | refine jb_r ?_ | refine jd_r ?_ | refine brT_r ?_ | refine brF_r ?_ | refine pickT_r ?_ | refine pickF_r ?_ | refine asB_r ?_ | refine asI_r ?_ | refine asS_r ?_ | refine asBUb_r ?_ | refine asBUs_r ?_ | refine lvS_r ?_
      by_cases hl : R4 j < R4 a
      · rw [decide_eq_true hl]
        repeat with_reducible first | refine jn_r ?_ | refine jb_r ?_ | refine jd_r ?_ | refine brT_r ?_ | refine brF_r ?_ | refine pickT_r ?_ | refine pickF_r ?_ | refine asB_r ?_ | refine asI_r ?_ | refine asS_r ?_ | refine asBUb_r ?_ | refine asBUs_r ?_ | refine lvS_r ?_
        refine fBE_r (show Bool.not true = false from rfl) ?_
        repeat with_reducible first | refine jn_r ?_ | refine jb_r ?_ | refine jd_r ?_ | refine brT_r ?_ | refine brF_r ?_ | refine pickT_r ?_ | refine pickF_r ?_ | refine asB_r ?_ | refine asI_r ?_ | refine asS_r ?_ | refine asBUb_r ?_ | refine asBUs_r ?_ | refine lvS_r ?_
        exact go (.inr hl)
      · rw [decide_eq_false hl]
        repeat with_reducible first | refine jn_r ?_ | refine jb_r ?_ | refine jd_r ?_ | refine brT_r ?_ | refine brF_r ?_ | refine pickT_r ?_ | refine pickF_r ?_ | refine asB_r ?_ | refine asI_r ?_ | refine asS_r ?_ | refine asBUb_r ?_ | refine asBUs_r ?_ | refine lvS_r ?_
        refine fBE_r (show Bool.not false = true from rfl) ?_
        repeat with_reducible first | refine jn_r ?_ | refine jb_r ?_ | refine jd_r ?_ | refine brT_r ?_ | refine brF_r ?_ | refine pickT_r ?_ | refine pickF_r ?_ | refine asB_r ?_ | refine asI_r ?_ | refine asS_r ?_ | refine asBUb_r ?_ | refine asBUs_r ?_ | refine lvS_r ?_
        refine fIE_r (dec_nat (by omega) (by omega)) ?_
        exact next2j (j - 1 + 1 - i) _ _ _ (by omega) ⟨j - 1, rfl, rfl, rfl, rfl, ⟨pai, by omega, by omega, by omega, par.low, fun k k1 k2 => by
          by_cases kj : k = j
          · rw [kj]; have := hia j (by omega) (by omega); omega
          · exact par.high k (by omega) k2⟩, by omega⟩
    · rw [decide_eq_false hij]
      repeat with_reducible first | refine jn_r ?_ | refine jb_r ?_ | refine jd_r ?_ | refine brT_r ?_ | refine brF_r ?_ | refine pickT_r ?_ | refine pickF_r ?_ | refine asB_r ?_ | refine asI_r ?_ | refine asS_r ?_ | refine asBUb_r ?_ | refine asBUs_r ?_ | refine lvS_r ?_
      exact go (.inl (by omega))
  intro hj1
  repeat with_reducible first | refine jn_r ?_ | refine jb_r ?_ | refine jd_r ?_ | refine brT_r ?_ | refine brF_r ?_ | refine pickT_r ?_ | refine pickF_r ?_ | refine asB_r ?_ | refine asI_r ?_ | refine asS_r ?_ | refine asBUb_r ?_ | refine asBUs_r ?_ | refine lvS_r ?_
  refine fBE_r ltD ?_
  by_cases hji : j < i
  · rw [decide_eq_true hji]
    repeat with_reducible first | refine jn_r ?_ | refine jb_r ?_ | refine jd_r ?_ | refine brT_r ?_ | refine brF_r ?_ | refine pickT_r ?_ | refine pickF_r ?_ | refine asB_r ?_ | refine asI_r ?_ | refine asS_r ?_ | refine asBUb_r ?_ | refine asBUs_r ?_ | refine lvS_r ?_
    exact fin false r4 p4 par hji
  rw [decide_eq_false hji]
  repeat with_reducible first | refine jn_r ?_ | refine jb_r ?_ | refine jd_r ?_ | refine brT_r ?_ | refine brF_r ?_ | refine pickT_r ?_ | refine pickF_r ?_ | refine asB_r ?_ | refine asI_r ?_ | refine asS_r ?_ | refine asBUb_r ?_ | refine asBUs_r ?_ | refine lvS_r ?_
  have g1 : R4 a < R4 i := hi1.resolve_left (by omega)
  have g2 : R4 j < R4 a := hj1.resolve_left hji
  have hij : i < j := by
    by_cases e' : i = j
    · subst e'; omega
    · omega
  refine ix_r (by omega) ?_
  refine r4.ld (by omega) ?_
  refine ix_r (by omega) ?_
  refine r4.ld (by omega) ?_
  refine ix_r (by omega) ?_
  refine r4.st (by omega) fun h7 r7 => ?_
  refine ix_r (by omega) ?_
  refine r7.st (by omega) fun h8 r8 => ?_
  have r8 : RowR S b n h0 (swp R4 i j) h8 := r8
  have p8 : Pin n a e R (swp R4 i j) := p4.trans (Pin.swp (by omega) (by omega) (by omega) (by omega) hen)
  have par8 := par.swap hij g1 g2
  repeat with_reducible first | refine jn_r ?_ | refine jb_r ?_ | refine jd_r ?_ | refine brT_r ?_ | refine brF_r ?_ | refine pickT_r ?_ | refine pickF_r ?_ | refine asB_r ?_ | refine asI_r ?_ | refine asS_r ?_ | refine asBUb_r ?_ | refine asBUs_r ?_ | refine lvS_r ?_
  refine fIE_r (add_nat (i := i) (j := 1) (by omega)) ?_
  repeat with_reducible first | refine jn_r ?_ | refine jb_r ?_ | refine jd_r ?_ | refine brT_r ?_ | refine brF_r ?_ | refine pickT_r ?_ | refine pickF_r ?_ | refine asB_r ?_ | refine asI_r ?_ | refine asS_r ?_ | refine asBUb_r ?_ | refine asBUs_r ?_ | refine lvS_r ?_
  refine fIE_r (dec_nat (by omega) (by omega)) ?_
  exact next (j - 1 + 1 - (i + 1)) _ _ _ (by omega) ⟨i + 1, j - 1, _, rfl, rfl, rfl, r8, p8, par8⟩
end Go.Proofs.Ytiejkbmobmgdkaa
