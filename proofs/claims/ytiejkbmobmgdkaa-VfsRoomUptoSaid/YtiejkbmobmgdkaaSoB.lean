/- Insertion sort, the reversing of a part: rows of texts by their ranks. No condition. -/
import Derived.Test.YtiejkbmobmgdkaaSoA
namespace Go.Am
open Go
set_option linter.all false
theorem ix_r {b n cap i : Nat} {ex : Bool} {kk : IntKind} {k : AV → Prop} (hi : i < n) (q : k (.ptr b i)) : ixK 1 (.slice b 0 n cap 1 ex) (.int kk (Int.ofNat i)) k := by rw [ixK1 hi]; exact q
theorem Pin.lt {n a b : Nat} {R R' : Nat → Nat} (p : Pin n a b R R') (hb : b ≤ n) (hs : Seg a b R) (hR : ∀ k, k < n → R k < n) : ∀ k, k < n → R' k < n := fun k hk => by
  by_cases h : k < a ∨ b ≤ k
  · rw [p.out k h]; exact hR k hk
  · have := (p.seg hs k (by omega) (by omega)).2; omega
theorem lvS_r {G : Gam} {h : H} {k : H → Prop} (q : k h) : leaveK G [] h k := q
end Go.Am
namespace Go.Proofs.Ytiejkbmobmgdkaa
open Go Go.Am
set_option linter.all false
set_option maxRecDepth 100000
theorem q64 {S : Nat → Str} {n i j : Nat} {h : H} {k : Bool → H → Prop} (os : OrdS S n) (hi : i < n) (hj : j < n) (hk : k (decide (i < j)) h) : s64 (S i) (S j) h k := by
  show s64G J0 s74 _ _ h k
  unfold s64G
  show s74G J0 _ h _
  unfold s74G
  refine fBE_r (d := false) (by rw [Str.beq_iff.2 rfl]; rfl) ?_
  repeat with_reducible first | refine jn_r ?_ | refine jb_r ?_ | refine jd_r ?_ | refine brT_r ?_ | refine brF_r ?_ | refine pickT_r ?_ | refine pickF_r ?_ | refine asB_r ?_ | refine asI_r ?_ | refine asS_r ?_ | refine asBUb_r ?_ | refine asBUs_r ?_ | refine lvS_r ?_
  refine fBE_r (os.lt i j hi hj) ?_
  repeat with_reducible first | refine jn_r ?_ | refine jb_r ?_ | refine jd_r ?_ | refine brT_r ?_ | refine brF_r ?_ | refine pickT_r ?_ | refine pickF_r ?_ | refine asB_r ?_ | refine asI_r ?_ | refine asS_r ?_ | refine asBUb_r ?_ | refine asBUs_r ?_ | refine lvS_r ?_
  exact hk
/-- all but the one at j rise, from a to i -/
def Ins (a i j : Nat) (R : Nat → Nat) : Prop := (∀ x y, a ≤ x → x < y → y ≤ i → x ≠ j → y ≠ j → R x < R y) ∧ ∀ y, j < y → y ≤ i → R j < R y
structure RIn (S : Nat → Str) (b n cap : Nat) (ex : Bool) (h0 : H) (a e i : Nat) (R0 : Nat → Nat) (m : Nat) (v : AV × AV × AV × AV × AV × Unit) (d : List Dfr) (h : H) (j : Nat) (R : Nat → Nat) : Prop where
  m : m = j - a
  le : a ≤ j
  hi : j ≤ i
  v : v = (.slice b 0 n cap 1 ex, .int .i64 (Int.ofNat a), .int .i64 (Int.ofNat e), .int .i64 (Int.ofNat i), .int .i64 (Int.ofNat j), ())
  d : d = []
  r : RowR S b n h0 R h
  p : Pin n a e R0 R
  ins : Ins a i j R
structure ROut (S : Nat → Str) (b n cap : Nat) (ex : Bool) (h0 : H) (a e : Nat) (R0 : Nat → Nat) (m : Nat) (v : AV × AV × AV × AV × Unit) (d : List Dfr) (h : H) (i : Nat) (R : Nat → Nat) : Prop where
  m : m = e - i
  lo : a + 1 ≤ i
  v : v = (.slice b 0 n cap 1 ex, .int .i64 (Int.ofNat a), .int .i64 (Int.ofNat e), .int .i64 (Int.ofNat i), ())
  d : d = []
  r : RowR S b n h0 R h
  p : Pin n a e R0 R
  inc : ∀ x y, a ≤ x → x < y → y < i → y < e → R x < R y
theorem ins_swp {a i j : Nat} {R : Nat → Nat} (h : Ins a i j R) (hj : a + 1 ≤ j) (hji : j ≤ i) (hl : R j < R (j - 1)) : Ins a i (j - 1) (swp R (j - 1) j) := by
  obtain ⟨h1, h2⟩ := h
  have e : ∀ k, swp R (j - 1) j k = if k = j then R (j - 1) else if k = j - 1 then R j else R k := fun k => rfl
  refine ⟨fun x y hx hxy hy x1 y1 => ?_, fun y hy hyi => ?_⟩
  · rw [e, e, if_neg x1, if_neg y1]
    by_cases xj : x = j
    · rw [if_pos xj, if_neg (by omega)]
      exact h1 (j - 1) y (by omega) (by omega) hy (by omega) (by omega)
    · rw [if_neg xj]
      by_cases yj : y = j
      · rw [if_pos yj]; exact h1 x (j - 1) hx (by omega) (by omega) xj (by omega)
      · rw [if_neg yj]; exact h1 x y hx hxy hy xj yj
  · rw [e, e, if_neg (by omega), if_pos rfl]
    by_cases yj : y = j
    · rw [if_pos yj]; exact hl
    · rw [if_neg yj, if_neg (by omega)]; exact h2 y (by omega) hyi
theorem q58 {S : Nat → Str} {b n cap : Nat} {ex : Bool} {h0 h : H} {R : Nat → Nat} {a e : Nat} {k : H → Prop} (os : OrdS S n) (hn : n < 1000000) (r : RowR S b n h0 R h) (hae : a ≤ e) (hen : e ≤ n) (hs : Seg a e R) (hR : ∀ k, k < n → R k < n) (hi : InjN n R)
    (hk : ∀ h' R', RowR S b n h0 R' h' → Pin n a e R R' → (∀ x, a ≤ x → x < e → R' x = x) → k h') : s58 (.slice b 0 n cap 1 ex) (Int.ofNat a) (Int.ofNat e) h k := by
  show s58G J0 s64 _ _ _ h k
  unfold s58G
  refine fIE_r (add_nat (i := a) (j := 1) (by omega)) ?_
  have bnd : ∀ {R' : Nat → Nat}, Pin n a e R R' → ∀ k, k < n → R' k < n := fun p k hk => p.lt hen hs hR k hk
  refine lp_rule (fun m v d h' => ∃ i R', ROut S b n cap ex h0 a e R m v d h' i R') (fun m self v d hc inv next => ?_) (n := e - (a + 1)) (by show _ < 4611686018427387904; omega) ⟨a + 1, R, rfl, Nat.le_refl _, rfl, rfl, r, Pin.refl _ _ _ _, fun x y h1 h2 h3 _ => by omega⟩
  obtain ⟨i, R1, rfl, hlo, rfl, rfl, r1, p1, inc1⟩ := inv
  dsimp only
  repeat with_reducible first | refine jn_r ?_ | refine jb_r ?_ | refine jd_r ?_ | refine brT_r ?_ | refine brF_r ?_ | refine pickT_r ?_ | refine pickF_r ?_ | refine asB_r ?_ | refine asI_r ?_ | refine asS_r ?_ | refine asBUb_r ?_ | refine asBUs_r ?_ | refine lvS_r ?_
  refine fBE_r ltD ?_
  by_cases hie : i < e
  rotate_left
  · rw [decide_eq_false hie]
    repeat with_reducible first | refine jn_r ?_ | refine jb_r ?_ | refine jd_r ?_ | refine brT_r ?_ | refine brF_r ?_ | refine pickT_r ?_ | refine pickF_r ?_ | refine asB_r ?_ | refine asI_r ?_ | refine asS_r ?_ | refine asBUb_r ?_ | refine asBUs_r ?_ | refine lvS_r ?_
    exact hk hc R1 r1 p1 (done_of_inc (p1.seg hs) fun x y h1 h2 h3 => inc1 x y h1 h2 (by omega) h3)
  rw [decide_eq_true hie]
  repeat with_reducible first | refine jn_r ?_ | refine jb_r ?_ | refine jd_r ?_ | refine brT_r ?_ | refine brF_r ?_ | refine pickT_r ?_ | refine pickF_r ?_ | refine asB_r ?_ | refine asI_r ?_ | refine asS_r ?_ | refine asBUb_r ?_ | refine asBUs_r ?_ | refine lvS_r ?_
  refine lp_rule (fun m v d h' => ∃ j R', RIn S b n cap ex h0 a e i R1 m v d h' j R') (fun m2 self2 v2 d2 h2 inv2 next2 => ?_) (n := i - a) (by show _ < 4611686018427387904; omega) ⟨i, R1, rfl, by omega, Nat.le_refl _, rfl, rfl, r1, Pin.refl _ _ _ _, ⟨fun x y h1 h2 h3 h4 h5 => inc1 x y h1 h2 (by omega) (by omega), fun y h1 h2 => by omega⟩⟩
  obtain ⟨j, R2, rfl, hja, hji, rfl, rfl, r2, p2, ins2⟩ := inv2
  dsimp only
  repeat with_reducible first | refine jn_r ?_ | refine jb_r ?_ | refine jd_r ?_ | refine brT_r ?_ | refine brF_r ?_ | refine pickT_r ?_ | refine pickF_r ?_ | refine asB_r ?_ | refine asI_r ?_ | refine asS_r ?_ | refine asBUb_r ?_ | refine asBUs_r ?_ | refine lvS_r ?_
  refine fBE_r ltD ?_
  have out : (j = a ∨ R2 (j - 1) < R2 j) → fI (wrapF .i64 (Int.add (Int.ofNat i) (Int.ofNat 1))) fun x72 => self (.slice b 0 n cap 1 ex, .int .i64 (Int.ofNat a), .int .i64 (Int.ofNat e), .int .i64 x72, ()) [] h2 := by
    intro hc'
    refine fIE_r (add_nat (i := i) (j := 1) (by omega)) ?_
    refine next (e - (i + 1)) _ _ _ (by omega) ⟨i + 1, R2, rfl, by omega, rfl, rfl, r2, p1.trans p2, fun x y h1 h2 h3 h4 => ?_⟩
    by_cases xj : x = j
    · subst xj; exact ins2.2 y h2 (by omega)
    · by_cases yj : y = j
      · subst yj
        rcases hc' with c | c
        · omega
        · by_cases x1 : x = y - 1
          · rw [x1]; exact c
          · exact Nat.lt_trans (ins2.1 x (y - 1) h1 (by omega) (by omega) xj (by omega)) c
      · exact ins2.1 x y h1 h2 (by omega) xj yj
  by_cases hj : a < j
  rotate_left
  · rw [decide_eq_false hj]
    repeat with_reducible first | refine jn_r ?_ | refine jb_r ?_ | refine jd_r ?_ | refine brT_r ?_ | refine brF_r ?_ | refine pickT_r ?_ | refine pickF_r ?_ | refine asB_r ?_ | refine asI_r ?_ | refine asS_r ?_ | refine asBUb_r ?_ | refine asBUs_r ?_ | refine lvS_r ?_
    exact out (.inl (by omega))
  rw [decide_eq_true hj]
  repeat with_reducible first | refine jn_r ?_ | refine jb_r ?_ | refine jd_r ?_ | refine brT_r ?_ | refine brF_r ?_ | refine pickT_r ?_ | refine pickF_r ?_ | refine asB_r ?_ | refine asI_r ?_ | refine asS_r ?_ | refine asBUb_r ?_ | refine asBUs_r ?_ | refine lvS_r ?_
  refine ix_r (by omega) ?_
  repeat with_reducible first | refine jn_r ?_ | refine jb_r ?_ | refine jd_r ?_ | refine brT_r ?_ | refine brF_r ?_ | refine pickT_r ?_ | refine pickF_r ?_ | refine asB_r ?_ | refine asI_r ?_ | refine asS_r ?_ | refine asBUb_r ?_ | refine asBUs_r ?_ | refine lvS_r ?_
  refine r2.ld (by omega) ?_
  repeat with_reducible first | refine jn_r ?_ | refine jb_r ?_ | refine jd_r ?_ | refine brT_r ?_ | refine brF_r ?_ | refine pickT_r ?_ | refine pickF_r ?_ | refine asB_r ?_ | refine asI_r ?_ | refine asS_r ?_ | refine asBUb_r ?_ | refine asBUs_r ?_ | refine lvS_r ?_
  refine fIE_r (dec_nat (by omega) (by omega)) ?_
  repeat with_reducible first | refine jn_r ?_ | refine jb_r ?_ | refine jd_r ?_ | refine brT_r ?_ | refine brF_r ?_ | refine pickT_r ?_ | refine pickF_r ?_ | refine asB_r ?_ | refine asI_r ?_ | refine asS_r ?_ | refine asBUb_r ?_ | refine asBUs_r ?_ | refine lvS_r ?_
  refine ix_r (by omega) ?_
  repeat with_reducible first | refine jn_r ?_ | refine jb_r ?_ | refine jd_r ?_ | refine brT_r ?_ | refine brF_r ?_ | refine pickT_r ?_ | refine pickF_r ?_ | refine asB_r ?_ | refine asI_r ?_ | refine asS_r ?_ | refine asBUb_r ?_ | refine asBUs_r ?_ | refine lvS_r ?_
  refine r2.ld (by omega) ?_
  repeat with_reducible first | refine jn_r ?_ | refine jb_r ?_ | refine jd_r ?_ | refine brT_r ?_ | refine brF_r ?_ | refine pickT_r ?_ | refine pickF_r ?_ | refine asB_r ?_ | refine asI_r ?_ | refine asS_r ?_ | refine asBUb_r ?_ | refine asBUs_r ?_ | refine lvS_r ?_
  have b1 := bnd (p1.trans p2)
  refine q64 os (b1 _ (by omega)) (b1 _ (by omega)) ?_
  repeat with_reducible first | refine jn_r ?_ | refine jb_r ?_ | refine jd_r ?_ | refine brT_r ?_ | refine brF_r ?_ | refine pickT_r ?_ | refine pickF_r ?_ | refine asB_r ?_ | refine asI_r ?_ | refine asS_r ?_ | refine asBUb_r ?_ | refine asBUs_r ?_ | refine lvS_r ?_
  by_cases hl : R2 j < R2 (j - 1)
  rotate_left
  · rw [decide_eq_false hl]
    repeat with_reducible first | refine jn_r ?_ | refine jb_r ?_ | refine jd_r ?_ | refine brT_r ?_ | refine brF_r ?_ | refine pickT_r ?_ | refine pickF_r ?_ | refine asB_r ?_ | refine asI_r ?_ | refine asS_r ?_ | refine asBUb_r ?_ | refine asBUs_r ?_ | refine lvS_r ?_
    refine out (.inr ?_)
    have : R2 j ≠ R2 (j - 1) := fun e' => by have := (p1.trans p2).inj hi j (j - 1) (by omega) (by omega) e'; omega
    omega
  rw [decide_eq_true hl]
  repeat with_reducible first | refine jn_r ?_ | refine jb_r ?_ | refine jd_r ?_ | refine brT_r ?_ | refine brF_r ?_ | refine pickT_r ?_ | refine pickF_r ?_ | refine asB_r ?_ | refine asI_r ?_ | refine asS_r ?_ | refine asBUb_r ?_ | refine asBUs_r ?_ | refine lvS_r ?_
  refine fIE_r (dec_nat (by omega) (by omega)) ?_
  repeat with_reducible first | refine jn_r ?_ | refine jb_r ?_ | refine jd_r ?_ | refine brT_r ?_ | refine brF_r ?_ | refine pickT_r ?_ | refine pickF_r ?_ | refine asB_r ?_ | refine asI_r ?_ | refine asS_r ?_ | refine asBUb_r ?_ | refine asBUs_r ?_ | refine lvS_r ?_
  refine fIE_r (dec_nat (by omega) (by omega)) ?_
  refine ix_r (by omega) ?_
  refine r2.ld (by omega) ?_
  refine ix_r (by omega) ?_
  refine r2.ld (by omega) ?_
  refine ix_r (by omega) ?_
  refine r2.st (by omega) fun h3 r3 => ?_
  refine ix_r (by omega) ?_
  refine r3.st (by omega) fun h4 r4 => ?_
  repeat with_reducible first | refine jn_r ?_ | refine jb_r ?_ | refine jd_r ?_ | refine brT_r ?_ | refine brF_r ?_ | refine pickT_r ?_ | refine pickF_r ?_ | refine asB_r ?_ | refine asI_r ?_ | refine asS_r ?_ | refine asBUb_r ?_ | refine asBUs_r ?_ | refine lvS_r ?_
  refine fIE_r (dec_nat (by omega) (by omega)) ?_
  have e4 : upd1 (upd1 R2 j (R2 (j - 1))) (j - 1) (R2 j) = swp R2 (j - 1) j := by
    funext x
    show (if x = j - 1 then R2 j else if x = j then R2 (j - 1) else R2 x) = (if x = j then R2 (j - 1) else if x = j - 1 then R2 j else R2 x)
    by_cases x1 : x = j
    · rw [if_pos x1, if_neg (by omega), if_pos x1]
    · rw [if_neg x1, if_neg x1]
  rw [e4] at r4
  exact next2 (j - 1 - a) _ _ _ (by omega) ⟨j - 1, _, rfl, by omega, by omega, rfl, rfl, r4, p2.trans (Pin.swp (by omega) (by omega) (by omega) (by omega) hen), ins_swp ins2 (by omega) hji hl⟩
end Go.Proofs.Ytiejkbmobmgdkaa
