/- A part is reversed; a pivot is chosen. No condition. -/
import Derived.Test.YtiejkbmobmgdkaaSoB
namespace Go.Proofs.Ytiejkbmobmgdkaa
open Go Go.Am
set_option linter.all false
set_option maxRecDepth 100000
theorem q62 {S : Nat → Str} {b n cap : Nat} {ex : Bool} {h0 h : H} {R : Nat → Nat} {a e : Nat} {k : H → Prop} (hn : n < 1000000) (r : RowR S b n h0 R h) (hae : a < e) (hen : e ≤ n)
    (hk : ∀ h' R', RowR S b n h0 R' h' → Pin n a e R R' → k h') : s62 (.slice b 0 n cap 1 ex) (Int.ofNat a) (Int.ofNat e) h k := by
  show s62G J0 _ _ _ h k
  unfold s62G
  refine fIE_r (dec_nat (by omega) (by omega)) ?_
  refine lp_rule (fun m v d h' => ∃ i j R', m = j - i ∧ a ≤ i ∧ j < e ∧ v = (.slice b 0 n cap 1 ex, .int .i64 (Int.ofNat i), .int .i64 (Int.ofNat j), ()) ∧ d = [] ∧ RowR S b n h0 R' h' ∧ Pin n a e R R') (fun m self v d hc inv next => ?_) (n := e - 1 - a) (by show _ < 4611686018427387904; omega) ⟨a, e - 1, R, rfl, Nat.le_refl _, by omega, rfl, rfl, r, Pin.refl _ _ _ _⟩
  obtain ⟨i, j, R1, rfl, hai, hje, rfl, rfl, r1, p1⟩ := inv
  dsimp only
  repeat with_reducible first | refine jn_r ?_ | refine jb_r ?_ | refine jd_r ?_ | refine brT_r ?_ | refine brF_r ?_ | refine pickT_r ?_ | refine pickF_r ?_ | refine asB_r ?_ | refine asI_r ?_ | refine asS_r ?_ | refine asBUb_r ?_ | refine asBUs_r ?_ | refine lvS_r ?_
  refine fBE_r ltD ?_
  by_cases hij : i < j
  rotate_left
  · rw [decide_eq_false hij]
    repeat with_reducible first | refine jn_r ?_ | refine jb_r ?_ | refine jd_r ?_ | refine brT_r ?_ | refine brF_r ?_ | refine pickT_r ?_ | refine pickF_r ?_ | refine asB_r ?_ | refine asI_r ?_ | refine asS_r ?_ | refine asBUb_r ?_ | refine asBUs_r ?_ | refine lvS_r ?_
    exact hk hc R1 r1 p1
  rw [decide_eq_true hij]
  repeat with_reducible first | refine jn_r ?_ | refine jb_r ?_ | refine jd_r ?_ | refine brT_r ?_ | refine brF_r ?_ | refine pickT_r ?_ | refine pickF_r ?_ | refine asB_r ?_ | refine asI_r ?_ | refine asS_r ?_ | refine asBUb_r ?_ | refine asBUs_r ?_ | refine lvS_r ?_
  refine ix_r (by omega) ?_
  refine r1.ld (by omega) ?_
  refine ix_r (by omega) ?_
  refine r1.ld (by omega) ?_
  refine ix_r (by omega) ?_
  refine r1.st (by omega) fun h3 r3 => ?_
  refine ix_r (by omega) ?_
  refine r3.st (by omega) fun h4 r4 => ?_
  repeat with_reducible first | refine jn_r ?_ | refine jb_r ?_ | refine jd_r ?_ | refine brT_r ?_ | refine brF_r ?_ | refine pickT_r ?_ | refine pickF_r ?_ | refine asB_r ?_ | refine asI_r ?_ | refine asS_r ?_ | refine asBUb_r ?_ | refine asBUs_r ?_ | refine lvS_r ?_
  refine fIE_r (add_nat (i := i) (j := 1) (by omega)) ?_
  repeat with_reducible first | refine jn_r ?_ | refine jb_r ?_ | refine jd_r ?_ | refine brT_r ?_ | refine brF_r ?_ | refine pickT_r ?_ | refine pickF_r ?_ | refine asB_r ?_ | refine asI_r ?_ | refine asS_r ?_ | refine asBUb_r ?_ | refine asBUs_r ?_ | refine lvS_r ?_
  refine fIE_r (dec_nat (by omega) (by omega)) ?_
  exact next (j - 1 - (i + 1)) _ _ _ (by omega) ⟨i + 1, j - 1, _, rfl, by omega, by omega, rfl, rfl, r4, p1.trans (Pin.swp (by omega) (by omega) (by omega) (by omega) hen)⟩
/-- a counter in a block of its own -/
structure Cnt (h0 : H) (b p : Nat) (h : H) : Prop where
  get : ∃ s, h.get p = .cells false 3 [.int .i64 s]
  new : h0.next ≤ p
  hb : h.base ≤ p
  ne : p ≠ b
theorem q75 {S : Nat → Str} {b n cap p : Nat} {ex : Bool} {h0 h : H} {R : Nat → Nat} {i j : Nat} {k : Int → Int → H → Prop} (os : OrdS S n) (r : RowR S b n h0 R h) (c : Cnt h0 b p h) (hR : ∀ k, k < n → R k < n) (hi : i < n) (hj : j < n)
    (hk : ∀ x y h', (x = i ∧ y = j ∨ x = j ∧ y = i) → RowR S b n h0 R h' → Cnt h0 b p h' → k (Int.ofNat x) (Int.ofNat y) h') : s75 (.slice b 0 n cap 1 ex) (Int.ofNat i) (Int.ofNat j) (.ptr p 0) h k := by
  show s75G J0 s64 _ _ _ _ h k
  unfold s75G
  refine ix_r hj ?_
  refine r.ld hj ?_
  refine ix_r hi ?_
  refine r.ld hi ?_
  refine q64 os (hR _ hj) (hR _ hi) ?_
  by_cases hl : R j < R i
  · rw [decide_eq_true hl]
    obtain ⟨s, g⟩ := c.get
    repeat with_reducible first | refine jn_r ?_ | refine jb_r ?_ | refine jd_r ?_ | refine brT_r ?_ | refine brF_r ?_ | refine pickT_r ?_ | refine pickF_r ?_ | refine asB_r ?_ | refine asI_r ?_ | refine asS_r ?_ | refine asBUb_r ?_ | refine asBUs_r ?_ | refine lvS_r ?_
    refine okNil_r ?_
    rw [ldI_at g rfl]
    refine fI_r ?_
    refine okNil_r ?_
    refine stV_r g rfl rfl c.hb fun h' o n' g' => ?_
    exact hk j i h' (.inr ⟨rfl, rfl⟩) (r.only o (fun q hq e => by have := c.new; omega) fun e => c.ne e.symm) ⟨⟨_, g'⟩, c.new, by rw [o.base]; exact c.hb, c.ne⟩
  · rw [decide_eq_false hl]
    repeat with_reducible first | refine jn_r ?_ | refine jb_r ?_ | refine jd_r ?_ | refine brT_r ?_ | refine brF_r ?_ | refine pickT_r ?_ | refine pickF_r ?_ | refine asB_r ?_ | refine asI_r ?_ | refine asS_r ?_ | refine asBUb_r ?_ | refine asBUs_r ?_ | refine lvS_r ?_
    exact hk i j h (.inl ⟨rfl, rfl⟩) r c
theorem q73 {S : Nat → Str} {b n cap p : Nat} {ex : Bool} {h0 h : H} {R : Nat → Nat} {i j l : Nat} {k : Int → H → Prop} (os : OrdS S n) (r : RowR S b n h0 R h) (c : Cnt h0 b p h) (hR : ∀ k, k < n → R k < n) (hi : i < n) (hj : j < n) (hl : l < n)
    (hk : ∀ x h', (x = i ∨ x = j ∨ x = l) → RowR S b n h0 R h' → Cnt h0 b p h' → k (Int.ofNat x) h') : s73 (.slice b 0 n cap 1 ex) (Int.ofNat i) (Int.ofNat j) (Int.ofNat l) (.ptr p 0) h k := by
  show s73G J0 s75 _ _ _ _ _ h k
  unfold s73G
  refine q75 os r c hR hi hj fun x1 y1 h1 q1 r1 c1 => ?_
  have y1n : y1 < n := by rcases q1 with q | q <;> omega
  have x1n : x1 < n := by rcases q1 with q | q <;> omega
  refine q75 os r1 c1 hR y1n hl fun x2 y2 h2 q2 r2 c2 => ?_
  have x2n : x2 < n := by rcases q2 with q | q <;> omega
  refine q75 os r2 c2 hR x1n x2n fun x3 y3 h3 q3 r3 c3 => ?_
  exact hk y3 h3 (by rcases q1 with q1 | q1 <;> rcases q2 with q2 | q2 <;> rcases q3 with q3 | q3 <;> omega) r3 c3
theorem q72 {S : Nat → Str} {b n cap p : Nat} {ex : Bool} {h0 h : H} {R : Nat → Nat} {i : Nat} {k : Int → H → Prop} (os : OrdS S n) (hn : n < 1000000) (r : RowR S b n h0 R h) (c : Cnt h0 b p h) (hR : ∀ k, k < n → R k < n) (hi : 1 ≤ i) (hi' : i + 1 < n)
    (hk : ∀ x h', (i - 1 ≤ x ∧ x ≤ i + 1) → RowR S b n h0 R h' → Cnt h0 b p h' → k (Int.ofNat x) h') : s72 (.slice b 0 n cap 1 ex) (Int.ofNat i) (.ptr p 0) h k := by
  show s72G J0 s73 _ _ _ h k
  unfold s72G
  refine fIE_r (dec_nat (by omega) (by omega)) ?_
  refine fIE_r (add_nat (i := i) (j := 1) (by omega)) ?_
  refine q73 os r c hR (by omega) (by omega) hi' fun x h' q r' c' => ?_
  exact hk x h' (by omega) r' c'
theorem q61 {S : Nat → Str} {b n cap : Nat} {ex : Bool} {h0 h : H} {R : Nat → Nat} {a e : Nat} {k : Int → Int → H → Prop} (os : OrdS S n) (hn : n < 1000000) (r : RowR S b n h0 R h) (hR : ∀ k, k < n → R k < n) (hae : a + 12 < e) (hen : e ≤ n)
    (hk : ∀ x t h', a ≤ x → x < e → RowR S b n h0 R h' → k (Int.ofNat x) t h') : s61 (.slice b 0 n cap 1 ex) (Int.ofNat a) (Int.ofNat e) h k := by
  show s61G J0 s72 s73 _ _ _ h k
  unfold s61G
  refine fIE_r (sub_nat (i := e) (j := a) (by omega) (by omega)) ?_
  refine push_r fun h3 o3 n3 g3 => ?_
  have hnx := r.o.next
  have hbn := r.hn
  have r3 : RowR S b n h0 R h3 := r.only o3 (fun _ _ c => c.elim) id
  have c3 : Cnt h0 b h.next h3 := ⟨⟨0, g3⟩, hnx, by rw [o3.base, r.o.base]; have := r.hb; omega, by omega⟩
  generalize hl : e - a = l
  have hl4 : l / 4 * 4 ≤ l := Nat.div_mul_le_self l 4
  have hl3 : 3 ≤ l / 4 := by omega
  refine ck_intro rfl ?_
  refine fIE_r (div_nat (i := l) (j := 4) (by omega)) ?_
  refine fIE_r (mul_nat (i := l / 4) (j := 1) (by omega)) ?_
  refine fIE_r (add_nat (i := a) (j := l / 4 * 1) (by omega)) ?_
  refine ck_intro rfl ?_
  refine fIE_r (div_nat (i := l) (j := 4) (by omega)) ?_
  refine fIE_r (mul_nat (i := l / 4) (j := 2) (by omega)) ?_
  refine fIE_r (add_nat (i := a) (j := l / 4 * 2) (by omega)) ?_
  refine ck_intro rfl ?_
  refine fIE_r (div_nat (i := l) (j := 4) (by omega)) ?_
  refine fIE_r (mul_nat (i := l / 4) (j := 3) (by omega)) ?_
  refine fIE_r (add_nat (i := a) (j := l / 4 * 3) (by omega)) ?_
  -- what stands behind the choice
  have fin : ∀ (x : Nat) (h' : H), a ≤ x → x < e → RowR S b n h0 R h' → Cnt h0 b h.next h' → ldI .i64 (.ptr h.next 0) h' fun x17 => fB (eqI x17 (Int.ofNat 0)) fun b18 => br b18 (leaveK (gam J0 [(72, w72 s72), (73, w73 s73)]) [] h' fun h19 => asI .i64 (.int .i64 (Int.ofNat x)) fun x20 => k x20 (Int.ofNat 1) h19)
      (fB (eqI x17 (Int.ofNat 12)) fun b21 => br b21 (leaveK (gam J0 [(72, w72 s72), (73, w73 s73)]) [] h' fun h22 => asI .i64 (.int .i64 (Int.ofNat x)) fun x23 => k x23 (Int.ofNat 2) h22)
        (leaveK (gam J0 [(72, w72 s72), (73, w73 s73)]) [] h' fun h24 => asI .i64 (.int .i64 (Int.ofNat x)) fun x25 => k x25 (Int.ofNat 0) h24)) := by
    intro x h' h1 h2 r' c'
    obtain ⟨s, g⟩ := c'.get
    rw [ldI_at g rfl]
    refine fB_r (br_intro (fun _ => ?_) fun _ => fB_r (br_intro (fun _ => ?_) fun _ => ?_))
    all_goals
      repeat with_reducible first | refine jn_r ?_ | refine jb_r ?_ | refine jd_r ?_ | refine brT_r ?_ | refine brF_r ?_ | refine pickT_r ?_ | refine pickF_r ?_ | refine asB_r ?_ | refine asI_r ?_ | refine asS_r ?_ | refine asBUb_r ?_ | refine asBUs_r ?_ | refine lvS_r ?_
      exact hk x _ h' h1 h2 r'
  refine jd_r ?_
  refine fBE_r (show Bool.not (ltI (Int.ofNat l) (Int.ofNat 8)) = true by rw [nlt, decide_eq_true (by omega)]) ?_
  repeat with_reducible first | refine jn_r ?_ | refine jb_r ?_ | refine jd_r ?_ | refine brT_r ?_ | refine brF_r ?_ | refine pickT_r ?_ | refine pickF_r ?_ | refine asB_r ?_ | refine asI_r ?_ | refine asS_r ?_ | refine asBUb_r ?_ | refine asBUs_r ?_ | refine lvS_r ?_
  refine fBE_r nlt ?_
  by_cases h50 : 50 ≤ l
  · rw [decide_eq_true h50]
    repeat with_reducible first | refine jn_r ?_ | refine jb_r ?_ | refine jd_r ?_ | refine brT_r ?_ | refine brF_r ?_ | refine pickT_r ?_ | refine pickF_r ?_ | refine asB_r ?_ | refine asI_r ?_ | refine asS_r ?_ | refine asBUb_r ?_ | refine asBUs_r ?_ | refine lvS_r ?_
    refine q72 os hn r3 c3 hR (by omega) (by omega) fun x1 h4 q1 r4 c4 => ?_
    refine q72 os hn r4 c4 hR (by omega) (by omega) fun x2 h5 q2 r5 c5 => ?_
    refine q72 os hn r5 c5 hR (by omega) (by omega) fun x3 h6 q3 r6 c6 => ?_
    repeat with_reducible first | refine jn_r ?_ | refine jb_r ?_ | refine jd_r ?_ | refine brT_r ?_ | refine brF_r ?_ | refine pickT_r ?_ | refine pickF_r ?_ | refine asB_r ?_ | refine asI_r ?_ | refine asS_r ?_ | refine asBUb_r ?_ | refine asBUs_r ?_ | refine lvS_r ?_
    refine q73 os r6 c6 hR (by omega) (by omega) (by omega) fun x h7 q r7 c7 => ?_
    exact fin x h7 (by omega) (by omega) r7 c7
  · rw [decide_eq_false h50]
    repeat with_reducible first | refine jn_r ?_ | refine jb_r ?_ | refine jd_r ?_ | refine brT_r ?_ | refine brF_r ?_ | refine pickT_r ?_ | refine pickF_r ?_ | refine asB_r ?_ | refine asI_r ?_ | refine asS_r ?_ | refine asBUb_r ?_ | refine asBUs_r ?_ | refine lvS_r ?_
    refine q73 os r3 c3 hR (by omega) (by omega) (by omega) fun x h7 q r7 c7 => ?_
    exact fin x h7 (by omega) (by omega) r7 c7
end Go.Proofs.Ytiejkbmobmgdkaa
