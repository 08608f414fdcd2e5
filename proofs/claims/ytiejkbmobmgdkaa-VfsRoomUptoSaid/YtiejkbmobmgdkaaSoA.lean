/- Rows of texts that are told by their ranks: pure facts on ranks. No condition. -/
import Derived.Test.YtiejkbmobmgdkaaVxS0
namespace Go.Am
open Go
set_option linter.all false
/-- ranks of a part lie in it -/
def Seg (a b : Nat) (R : Nat → Nat) : Prop := ∀ k, a ≤ k → k < b → a ≤ R k ∧ R k < b
def InjN (n : Nat) (R : Nat → Nat) : Prop := ∀ i j, i < n → j < n → R i = R j → i = j
def upd1 (R : Nat → Nat) (i x : Nat) : Nat → Nat := fun k => if k = i then x else R k
def swp (R : Nat → Nat) (i j : Nat) : Nat → Nat := upd1 (upd1 R i (R j)) j (R i)
theorem swp_at {R : Nat → Nat} {i j k : Nat} : swp R i j k = if k = j then R i else if k = i then R j else R k := rfl
/-- what is done within a part -/
structure Pin (n a b : Nat) (R R' : Nat → Nat) : Prop where
  out : ∀ k, k < a ∨ b ≤ k → R' k = R k
  inj : InjN n R → InjN n R'
  seg : Seg a b R → Seg a b R'
  val : ∀ k, a ≤ k → k < b → ∃ k', a ≤ k' ∧ k' < b ∧ R' k = R k'
theorem Pin.refl (n a b : Nat) (R : Nat → Nat) : Pin n a b R R := ⟨fun _ _ => rfl, id, id, fun k h1 h2 => ⟨k, h1, h2, rfl⟩⟩
theorem Pin.trans {n a b : Nat} {R R' R'' : Nat → Nat} (p : Pin n a b R R') (q : Pin n a b R' R'') : Pin n a b R R'' := ⟨fun k h => (q.out k h).trans (p.out k h), fun h => q.inj (p.inj h), fun h => q.seg (p.seg h), fun k h1 h2 => by
  obtain ⟨k1, a1, a2, a3⟩ := q.val k h1 h2
  obtain ⟨k2, b1, b2, b3⟩ := p.val k1 a1 a2
  exact ⟨k2, b1, b2, a3.trans b3⟩⟩
theorem Pin.swp {n a b : Nat} {R : Nat → Nat} {i j : Nat} (hi : a ≤ i) (hi' : i < b) (hj : a ≤ j) (hj' : j < b) (hb : b ≤ n) : Pin n a b R (Am.swp R i j) := by
  refine ⟨fun k h => ?_, fun h x y hx hy e => ?_, fun h k h1 h2 => ?_, fun k h1 h2 => ?_⟩
  rotate_left 3
  · rw [swp_at]
    split
    · exact ⟨i, hi, hi', rfl⟩
    · split
      · exact ⟨j, hj, hj', rfl⟩
      · exact ⟨k, h1, h2, rfl⟩
  · rw [swp_at, if_neg (by omega), if_neg (by omega)]
  · rw [swp_at, swp_at] at e
    by_cases x1 : x = j
    · rw [if_pos x1] at e
      by_cases y1 : y = j
      · omega
      · rw [if_neg y1] at e
        by_cases y2 : y = i
        · rw [if_pos y2] at e; have := h i j (by omega) (by omega) e; omega
        · rw [if_neg y2] at e; have := h i y (by omega) hy e; omega
    · rw [if_neg x1] at e
      by_cases x2 : x = i
      · rw [if_pos x2] at e
        by_cases y1 : y = j
        · rw [if_pos y1] at e; have := h j i (by omega) (by omega) e; omega
        · rw [if_neg y1] at e
          by_cases y2 : y = i
          · omega
          · rw [if_neg y2] at e; have := h j y (by omega) hy e; omega
      · rw [if_neg x2] at e
        by_cases y1 : y = j
        · rw [if_pos y1] at e; have := h x i hx (by omega) e; omega
        · rw [if_neg y1] at e
          by_cases y2 : y = i
          · rw [if_pos y2] at e; have := h x j hx (by omega) e; omega
          · rw [if_neg y2] at e; exact h x y hx hy e
  · rw [swp_at]
    split
    · exact h i hi hi'
    · split
      · exact h j hj hj'
      · exact h k h1 h2
theorem Pin.up {n a b a' b' : Nat} {R R' : Nat → Nat} (p : Pin n a b R R') (ha : a' ≤ a) (hb : b ≤ b') : Pin n a' b' R R' := by
  have val : ∀ k, a' ≤ k → k < b' → ∃ k', a' ≤ k' ∧ k' < b' ∧ R' k = R k' := fun k h1 h2 => by
    by_cases h : k < a ∨ b ≤ k
    · exact ⟨k, h1, h2, p.out k h⟩
    · obtain ⟨k', q1, q2, q3⟩ := p.val k (by omega) (by omega)
      exact ⟨k', by omega, by omega, q3⟩
  refine ⟨fun k h => p.out k (by omega), p.inj, fun h k h1 h2 => ?_, val⟩
  obtain ⟨k', q1, q2, q3⟩ := val k h1 h2
  rw [q3]; exact h k' q1 q2
/-- a part that rises is done -/
theorem done_of_inc {a b : Nat} {R : Nat → Nat} (hs : Seg a b R) (h : ∀ i j, a ≤ i → i < j → j < b → R i < R j) : ∀ k, a ≤ k → k < b → R k = k := by
  have up : ∀ m, a + m < b → a + m ≤ R (a + m) := by
    intro m
    induction m with
    | zero => intro hm; exact (hs a (Nat.le_refl _) (by omega)).1
    | succ m ih =>
      intro hm
      have h1 := ih (by omega)
      have h2 := h (a + m) (a + (m + 1)) (by omega) (by omega) hm
      omega
  have dn : ∀ m k, a ≤ k → k + m + 1 = b → R k ≤ k := by
    intro m
    induction m with
    | zero => intro k hk e; have := (hs k hk (by omega)).2; omega
    | succ m ih =>
      intro k hk e
      have h1 := ih (k + 1) (by omega) (by omega)
      have h2 := h k (k + 1) hk (by omega) (by omega)
      omega
  intro k h1 h2
  have := up (k - a) (by omega)
  rw [show a + (k - a) = k by omega] at this
  have := dn (b - k - 1) k h1 (by omega)
  omega
theorem php : ∀ (p m : Nat) (f : Nat → Nat), (∀ i, i < m → f i < p) → (∀ i j, i < m → j < m → f i = f j → i = j) → m ≤ p
  | 0, m, f, h, _ => by
    cases m with
    | zero => exact Nat.le_refl _
    | succ m => have := h 0 (by omega); omega
  | p + 1, m, f, h, hi => by
    cases m with
    | zero => omega
    | succ m =>
      -- the last one takes the place of the one that is p
      by_cases hp : ∃ i, i < m + 1 ∧ f i = p
      · obtain ⟨i, hi1, hi2⟩ := hp
        have := php p m (fun k => if k = i then f m else f k) (fun k hk => by
          show (if k = i then f m else f k) < p
          split
          · have h1 := h m (by omega)
            have : f m ≠ p := fun e => by have := hi m i (by omega) hi1 (e.trans hi2.symm); omega
            omega
          · have h1 := h k (by omega)
            have : f k ≠ p := fun e => by have := hi k i (by omega) hi1 (e.trans hi2.symm); omega
            omega) (fun x y hx hy e => by
          have e : (if x = i then f m else f x) = (if y = i then f m else f y) := e
          split at e
          · split at e
            · omega
            · have := hi m y (by omega) (by omega) e; omega
          · split at e
            · have := hi x m (by omega) (by omega) e; omega
            · exact hi x y (by omega) (by omega) e)
        omega
      · have := php p m f (fun k hk => by
          have h1 := h k (by omega)
          have : f k ≠ p := fun e => hp ⟨k, by omega, e⟩
          omega) (fun x y hx hy e => hi x y (by omega) (by omega) e)
        -- m + 1 values below p
        have := php p (m + 1) f (fun k hk => by
          have h1 := h k hk
          have : f k ≠ p := fun e => hp ⟨k, hk, e⟩
          omega) hi
        omega
/-- where a part is parted, the middle one is at its place -/
theorem mid_at {n a b mid : Nat} {R : Nat → Nat} (hs : Seg a b R) (hi : InjN n R) (hb : b ≤ n) (h1 : a ≤ mid) (h2 : mid < b) (hl : ∀ k, a ≤ k → k < mid → R k < R mid) (hr : ∀ k, mid < k → k < b → R mid < R k) : R mid = mid ∧ Seg a mid R ∧ Seg (mid + 1) b R := by
  have hm := hs mid h1 h2
  have q1 := php (R mid - a) (mid - a) (fun i => R (a + i) - a) (fun i hi' => by
    have := hl (a + i) (by omega) (by omega); have := (hs (a + i) (by omega) (by omega)).1
    show R (a + i) - a < _; omega) (fun i j hi1 hj1 e => by
    have e : R (a + i) - a = R (a + j) - a := e
    have h3 := (hs (a + i) (by omega) (by omega)).1
    have h4 := (hs (a + j) (by omega) (by omega)).1
    have := hi (a + i) (a + j) (by omega) (by omega) (by omega); omega)
  have q2 := php (b - R mid - 1) (b - mid - 1) (fun i => R (mid + 1 + i) - R mid - 1) (fun i hi' => by
    have := hr (mid + 1 + i) (by omega) (by omega); have := (hs (mid + 1 + i) (by omega) (by omega)).2
    show R (mid + 1 + i) - R mid - 1 < _; omega) (fun i j hi1 hj1 e => by
    have e : R (mid + 1 + i) - R mid - 1 = R (mid + 1 + j) - R mid - 1 := e
    have h3 := hr (mid + 1 + i) (by omega) (by omega)
    have h4 := hr (mid + 1 + j) (by omega) (by omega)
    have := hi (mid + 1 + i) (mid + 1 + j) (by omega) (by omega) (by omega); omega)
  have e : R mid = mid := by omega
  refine ⟨e, fun k k1 k2 => ?_, fun k k1 k2 => ?_⟩
  · have := hl k k1 k2; have := hs k k1 (by omega); omega
  · have := hr k (by omega) k2; have := hs k (by omega) k2; omega
theorem dec_nat {i : Nat} (h1 : 1 ≤ i) (h : i < 4611686018427387904) : wrapF .i64 (Int.sub (Int.ofNat i) (Int.ofNat 1)) = Int.ofNat (i - 1) := by
  have e : Int.sub (Int.ofNat i) (Int.ofNat 1) = Int.ofNat (i - 1) := by show (Int.ofNat i) - (Int.ofNat 1) = _; simp only [Int.ofNat_eq_natCast]; omega
  rw [e]; exact wrapF_nat (by show _ < 9223372036854775808; omega)
theorem sub_nat {i j : Nat} (h1 : j ≤ i) (h : i < 4611686018427387904) : wrapF .i64 (Int.sub (Int.ofNat i) (Int.ofNat j)) = Int.ofNat (i - j) := by
  have e : Int.sub (Int.ofNat i) (Int.ofNat j) = Int.ofNat (i - j) := by show (Int.ofNat i) - (Int.ofNat j) = _; simp only [Int.ofNat_eq_natCast]; omega
  rw [e]; exact wrapF_nat (by show _ < 9223372036854775808; omega)
theorem add_nat {i j : Nat} (h : i + j < 4611686018427387904) : wrapF .i64 (Int.add (Int.ofNat i) (Int.ofNat j)) = Int.ofNat (i + j) := by
  show wrapF .i64 (Int.ofNat (i + j)) = _
  exact wrapF_nat (by show i + j < 9223372036854775808; omega)
theorem mul_nat {i j : Nat} (h : i * j < 4611686018427387904) : wrapF .i64 (Int.mul (Int.ofNat i) (Int.ofNat j)) = Int.ofNat (i * j) := by
  show wrapF .i64 (Int.ofNat (i * j)) = _
  exact wrapF_nat (by show i * j < 9223372036854775808; omega)
theorem div_nat {i j : Nat} (h : i < 4611686018427387904) : wrapF .i64 (Int.tdiv (Int.ofNat i) (Int.ofNat j)) = Int.ofNat (i / j) := by
  show wrapF .i64 (Int.ofNat (i / j)) = _
  exact wrapF_nat (by show i / j < 9223372036854775808; exact Nat.lt_of_le_of_lt (Nat.div_le_self i j) (by omega))
theorem fIE_r {b c : Int} {k : Int → Prop} (e : b = c) (q : k c) : fI b k := by rw [e]; exact fI_r q
theorem nlt {i j : Nat} : Bool.not (ltI (Int.ofNat i) (Int.ofNat j)) = decide (j ≤ i) := by
  by_cases h : j ≤ i
  · rw [show ltI (Int.ofNat i) (Int.ofNat j) = false from ltI_nat'.2 h, decide_eq_true h]; rfl
  · rw [show ltI (Int.ofNat i) (Int.ofNat j) = true from ltI_nat.2 (by omega), decide_eq_false h]; rfl
theorem ltD {i j : Nat} : ltI (Int.ofNat i) (Int.ofNat j) = decide (i < j) := by
  by_cases h : i < j
  · rw [show ltI (Int.ofNat i) (Int.ofNat j) = true from ltI_nat.2 h, decide_eq_true h]
  · rw [show ltI (Int.ofNat i) (Int.ofNat j) = false from ltI_nat'.2 (by omega), decide_eq_false h]
structure OrdS (S : Nat → Str) (n : Nat) : Prop where
  lt : ∀ i j, i < n → j < n → Str.lt (S i) (S j) = decide (i < j)
structure RowR (S : Nat → Str) (b n : Nat) (h0 : H) (R : Nat → Nat) (h : H) : Prop where
  get : ∃ mv, h.get b = .cells mv 9 ((List.range n).map fun k => AV.str (S (R k)))
  o : Only (· = b) h0 h
  hb : h0.base ≤ b
  hn : b < h0.next
theorem RowR.ld {S : Nat → Str} {b n : Nat} {h0 h : H} {R : Nat → Nat} (r : RowR S b n h0 R h) {i : Nat} (hi : i < n) {k : Str → Prop} (q : k (S (R i))) : ldS (.ptr b i) h k := by
  obtain ⟨mv, g⟩ := r.get
  rw [ldS_at g (x := S (R i))]
  · exact q
  · rw [lgetO_get (by simpa using hi)]; simp
theorem lputAt_map {S : Nat → Str} {R : Nat → Nat} {n i x : Nat} (hi : i < n) : lputAt i [AV.str (S x)] ((List.range n).map fun k => AV.str (S (R k))) = some ((List.range n).map fun k => AV.str (S (upd1 R i x k))) := by
  rw [lputAt_eq, if_pos (by simp; omega)]
  congr 1
  apply List.ext_getElem?
  intro j
  by_cases h1 : j < i
  · rw [List.append_assoc, List.getElem?_append_left (by simp; omega), List.getElem?_take_of_lt h1]
    simp only [List.getElem?_map, List.getElem?_range (show j < n by omega), Option.map_some]
    unfold upd1; rw [if_neg (by omega)]
  · by_cases h2 : j = i
    · subst h2
      rw [List.append_assoc, List.getElem?_append_right (by simp; omega)]
      have : j - (List.take j (List.map (fun k => AV.str (S (R k))) (List.range n))).length = 0 := by simp; omega
      rw [this]
      simp only [List.getElem?_map, List.getElem?_range hi, Option.map_some]
      unfold upd1; rw [if_pos rfl]; rfl
    · rw [List.getElem?_append_right (by simp; omega)]
      by_cases h3 : j < n
      · rw [List.getElem?_drop]
        have : i + [AV.str (S x)].length + (j - (List.take i (List.map (fun k => AV.str (S (R k))) (List.range n)) ++ [AV.str (S x)]).length) = j := by simp; omega
        rw [this]
        simp only [List.getElem?_map, List.getElem?_range h3, Option.map_some]
        unfold upd1; rw [if_neg h2]
      · rw [List.getElem?_eq_none (by simp; omega), List.getElem?_eq_none (by simp; omega)]
theorem RowR.st {S : Nat → Str} {b n : Nat} {h0 h : H} {R : Nat → Nat} (r : RowR S b n h0 R h) {i x : Nat} (hi : i < n) {k : H → Prop} (q : ∀ h', RowR S b n h0 (upd1 R i x) h' → k h') : stV (.ptr b i) (.str (S x)) h k := by
  obtain ⟨mv, g⟩ := r.get
  refine stV_r g rfl (lputAt_map hi) (by rw [r.o.base]; exact r.hb) fun h' o n' g' => q h' ⟨⟨mv, g'⟩, r.o.trans o fun _ _ c => c, r.hb, r.hn⟩
theorem RowR.only {S : Nat → Str} {b n : Nat} {h0 h h' : H} {R : Nat → Nat} {L : Nat → Prop} (r : RowR S b n h0 R h) (o : Only L h h') (hl : ∀ j, j < h0.next → L j → j = b) (hb : ¬ L b) : RowR S b n h0 R h' := by
  obtain ⟨mv, g⟩ := r.get
  exact ⟨⟨mv, o.at g rfl hb⟩, r.o.trans o hl, r.hb, r.hn⟩
end Go.Am
