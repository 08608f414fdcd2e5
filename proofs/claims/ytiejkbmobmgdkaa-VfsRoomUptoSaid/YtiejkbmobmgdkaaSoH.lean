/- Texts are sorted, however many. No condition. -/
import Derived.Test.YtiejkbmobmgdkaaSoG
namespace Go.Am
open Go
set_option linter.all false
/-- a part that is yet to be sorted, within one -/
structure Todo (n a0 e0 a e : Nat) (R0 R : Nat → Nat) : Prop where
  la : a0 ≤ a
  ae : a ≤ e
  le : e ≤ e0
  pin : Pin n a0 e0 R0 R
  seg : Seg a e R
  pre : ∀ k, k < a → R k < a
  done : ∀ x, a0 ≤ x → x < e0 → (x < a ∨ e ≤ x) → R x = x
theorem Todo.inner {n a0 e0 a e : Nat} {R0 R R' : Nat → Nat} (t : Todo n a0 e0 a e R0 R) (p : Pin n a e R R') : Todo n a0 e0 a e R0 R' :=
  ⟨t.la, t.ae, t.le, t.pin.trans (p.up t.la t.le), p.seg t.seg, fun k hk => by rw [p.out k (.inl hk)]; exact t.pre k hk, fun x h1 h2 h3 => by rw [p.out x h3]; exact t.done x h1 h2 h3⟩
theorem Todo.finish {n a0 e0 a e : Nat} {R0 R R' : Nat → Nat} (t : Todo n a0 e0 a e R0 R) (p : Pin n a e R R') (h : ∀ x, a ≤ x → x < e → R' x = x) : ∀ x, a0 ≤ x → x < e0 → R' x = x := fun x h1 h2 => by
  by_cases hx : x < a ∨ e ≤ x
  · rw [p.out x hx]; exact t.done x h1 h2 hx
  · exact h x (by omega) (by omega)
end Go.Am
namespace Go.Proofs.Ytiejkbmobmgdkaa
open Go Go.Am
set_option linter.all false
set_option maxRecDepth 100000
/-- what a sorting does -/
def Sorts (S : Nat → Str) (b n cap : Nat) (ex : Bool) (h0 : H) (a0 e0 : Nat) (c : H → (H → Prop) → Prop) : Prop := ∀ (h : H) (R : Nat → Nat) (k : H → Prop), RowR S b n h0 R h → Seg a0 e0 R → (∀ x, x < n → R x < n) → InjN n R → (∀ x, x < a0 → R x < a0) →
  (∀ h' R', RowR S b n h0 R' h' → Pin n a0 e0 R R' → (∀ x, a0 ≤ x → x < e0 → R' x = x) → k h') → c h k
theorem q56 {S : Nat → Str} {b n cap : Nat} {ex : Bool} {h0 : H} (os : OrdS S n) (hn : n < 256) : ∀ (d a0 e0 : Nat) (lim : Int), a0 ≤ e0 → e0 ≤ n → e0 - a0 < 2 ^ d → Sorts S b n cap ex h0 a0 e0 (fun h k => rec56 (d + 1) (.slice b 0 n cap 1 ex) (Int.ofNat a0) (Int.ofNat e0) lim h k)
  | d, a0, e0, lim, hae0, hen0, hd => by
    intro h R k r hs hR hi hpre hk
    show s56G J0 (rec56 d) s58 s59 s60 s61 s62 s63 s64 s65 s66 _ _ _ _ h k
    unfold s56G
    refine lp_rule (fun m v d h' => ∃ (a e : Nat) (lim : Int) (wb wp : Bool) (R' : Nat → Nat), m = e - a ∧ v = (.slice b 0 n cap 1 ex, .int .i64 (Int.ofNat a), .int .i64 (Int.ofNat e), .int .i64 lim, .bool wb, .bool wp, ()) ∧ d = [] ∧ RowR S b n h0 R' h' ∧ Todo n a0 e0 a e R R') (fun m self v d' hc inv next => ?_) (n := e0 - a0) (by show _ < 4611686018427387904; omega) ⟨a0, e0, lim, true, true, R, rfl, rfl, rfl, r, ⟨Nat.le_refl _, hae0, Nat.le_refl _, Pin.refl _ _ _ _, hs, hpre, fun x h1 h2 h3 => by omega⟩⟩
    obtain ⟨a, e, lim, wb, wp, R1, rfl, rfl, rfl, r1, t1⟩ := inv
    have ta := t1.la
    have tae := t1.ae
    have te := t1.le
    have hen : e ≤ n := by omega
    have bnT : ∀ {R' : Nat → Nat}, Todo n a0 e0 a e R R' → (∀ x, x < n → R' x < n) ∧ InjN n R' := fun t => ⟨t.pin.lt hen0 hs hR, t.pin.inj hi⟩
    dsimp only
    repeat with_reducible first | refine jn_r ?_ | refine jb_r ?_ | refine jd_r ?_ | refine brT_r ?_ | refine brF_r ?_ | refine pickT_r ?_ | refine pickF_r ?_ | refine asB_r ?_ | refine asI_r ?_ | refine asS_r ?_ | refine asBUb_r ?_ | refine asBUs_r ?_ | refine lvS_r ?_
    refine fIE_r (sub_nat (i := e) (j := a) tae (by omega)) ?_
    refine fBE_r (show Bool.not (ltI (Int.ofNat 12) (Int.ofNat (e - a))) = decide (e - a ≤ 12) from nlt) ?_
    by_cases h12 : e - a ≤ 12
    · rw [decide_eq_true h12]
      repeat with_reducible first | refine jn_r ?_ | refine jb_r ?_ | refine jd_r ?_ | refine brT_r ?_ | refine brF_r ?_ | refine pickT_r ?_ | refine pickF_r ?_ | refine asB_r ?_ | refine asI_r ?_ | refine asS_r ?_ | refine asBUb_r ?_ | refine asBUs_r ?_ | refine lvS_r ?_
      refine q58 os (by omega) r1 tae hen t1.seg (bnT t1).1 (bnT t1).2 fun h2 R2 r2 p2 d2 => ?_
      repeat with_reducible first | refine jn_r ?_ | refine jb_r ?_ | refine jd_r ?_ | refine brT_r ?_ | refine brF_r ?_ | refine pickT_r ?_ | refine pickF_r ?_ | refine asB_r ?_ | refine asI_r ?_ | refine asS_r ?_ | refine asBUb_r ?_ | refine asBUs_r ?_ | refine lvS_r ?_
      exact hk h2 R2 r2 (t1.inner p2).pin (t1.finish p2 d2)
    rw [decide_eq_false h12]
    repeat with_reducible first | refine jn_r ?_ | refine jb_r ?_ | refine jd_r ?_ | refine brT_r ?_ | refine brF_r ?_ | refine pickT_r ?_ | refine pickF_r ?_ | refine asB_r ?_ | refine asI_r ?_ | refine asS_r ?_ | refine asBUb_r ?_ | refine asBUs_r ?_ | refine lvS_r ?_
    refine fB_r ?_
    refine br_intro (fun _ => ?_) fun _ => ?_
    · repeat with_reducible first | refine jn_r ?_ | refine jb_r ?_ | refine jd_r ?_ | refine brT_r ?_ | refine brF_r ?_ | refine pickT_r ?_ | refine pickF_r ?_ | refine asB_r ?_ | refine asI_r ?_ | refine asS_r ?_ | refine asBUb_r ?_ | refine asBUs_r ?_ | refine lvS_r ?_
      refine q59 os (by omega) r1 t1.seg (bnT t1).1 (bnT t1).2 (by omega) hen fun h2 R2 r2 p2 d2 => ?_
      repeat with_reducible first | refine jn_r ?_ | refine jb_r ?_ | refine jd_r ?_ | refine brT_r ?_ | refine brF_r ?_ | refine pickT_r ?_ | refine pickF_r ?_ | refine asB_r ?_ | refine asI_r ?_ | refine asS_r ?_ | refine asBUb_r ?_ | refine asBUs_r ?_ | refine lvS_r ?_
      exact hk h2 R2 r2 (t1.inner p2).pin (t1.finish p2 d2)
    -- patterns are broken, or not
    refine jd_intro (fun v d h' => ∃ (lim : Int) (wb wp : Bool) (R' : Nat → Nat), v = (.slice b 0 n cap 1 ex, .int .i64 (Int.ofNat a), .int .i64 (Int.ofNat e), .int .i64 lim, .bool wb, .bool wp, .int .i64 (Int.ofNat (e - a)), ()) ∧ d = [] ∧ RowR S b n h0 R' h' ∧ Todo n a0 e0 a e R R') (fun j22 hj => ?_) fun v d' h2 q => ?_
    · refine asB_r ?_
      refine fB_r ?_
      refine br_intro (fun _ => ?_) fun _ => ?_
      · repeat with_reducible first | refine jn_r ?_ | refine jb_r ?_ | refine jd_r ?_ | refine brT_r ?_ | refine brF_r ?_ | refine pickT_r ?_ | refine pickF_r ?_ | refine asB_r ?_ | refine asI_r ?_ | refine asS_r ?_ | refine asBUb_r ?_ | refine asBUs_r ?_ | refine lvS_r ?_
        refine q60 (by omega) r1 (by omega) hen fun h2 R2 r2 p2 => ?_
        repeat with_reducible first | refine jn_r ?_ | refine jb_r ?_ | refine jd_r ?_ | refine brT_r ?_ | refine brF_r ?_ | refine pickT_r ?_ | refine pickF_r ?_ | refine asB_r ?_ | refine asI_r ?_ | refine asS_r ?_ | refine asBUb_r ?_ | refine asBUs_r ?_ | refine lvS_r ?_
        refine fI_r ?_
        exact hj _ _ _ ⟨_, wb, wp, R2, rfl, rfl, r2, t1.inner p2⟩
      · exact hj _ _ _ ⟨lim, wb, wp, R1, rfl, rfl, r1, t1⟩
    obtain ⟨lim2, wb2, wp2, R2, rfl, rfl, r2, t2⟩ := q
    dsimp only
    repeat with_reducible first | refine jn_r ?_ | refine jb_r ?_ | refine jd_r ?_ | refine brT_r ?_ | refine brF_r ?_ | refine pickT_r ?_ | refine pickF_r ?_ | refine asB_r ?_ | refine asI_r ?_ | refine asS_r ?_ | refine asBUb_r ?_ | refine asBUs_r ?_ | refine lvS_r ?_
    refine q61 os (by omega) r2 (bnT t2).1 (by omega) hen fun pv hint h3 pv1 pv2 r3 => ?_
    -- the part is reversed, or not
    refine jd_intro (fun v d h' => ∃ (pv : Nat) (hint : Int) (R' : Nat → Nat), v = (.slice b 0 n cap 1 ex, .int .i64 (Int.ofNat a), .int .i64 (Int.ofNat e), .int .i64 lim2, .bool wb2, .bool wp2, .int .i64 (Int.ofNat (e - a)), .int .i64 (Int.ofNat pv), .int .i64 hint, ()) ∧ d = [] ∧ RowR S b n h0 R' h' ∧ Todo n a0 e0 a e R R' ∧ a ≤ pv ∧ pv < e) (fun j31 hj => ?_) fun v d' h4 q => ?_
    · refine fB_r ?_
      refine br_intro (fun _ => ?_) fun _ => ?_
      · repeat with_reducible first | refine jn_r ?_ | refine jb_r ?_ | refine jd_r ?_ | refine brT_r ?_ | refine brF_r ?_ | refine pickT_r ?_ | refine pickF_r ?_ | refine asB_r ?_ | refine asI_r ?_ | refine asS_r ?_ | refine asBUb_r ?_ | refine asBUs_r ?_ | refine lvS_r ?_
        refine q62 (by omega) r3 (by omega) hen fun h4 R4 r4 p4 => ?_
        repeat with_reducible first | refine jn_r ?_ | refine jb_r ?_ | refine jd_r ?_ | refine brT_r ?_ | refine brF_r ?_ | refine pickT_r ?_ | refine pickF_r ?_ | refine asB_r ?_ | refine asI_r ?_ | refine asS_r ?_ | refine asBUb_r ?_ | refine asBUs_r ?_ | refine lvS_r ?_
        refine fIE_r (dec_nat (i := e) (by omega) (by omega)) ?_
        repeat with_reducible first | refine jn_r ?_ | refine jb_r ?_ | refine jd_r ?_ | refine brT_r ?_ | refine brF_r ?_ | refine pickT_r ?_ | refine pickF_r ?_ | refine asB_r ?_ | refine asI_r ?_ | refine asS_r ?_ | refine asBUb_r ?_ | refine asBUs_r ?_ | refine lvS_r ?_
        refine fIE_r (sub_nat (i := pv) (j := a) pv1 (by omega)) ?_
        refine fIE_r (sub_nat (i := e - 1) (j := pv - a) (by omega) (by omega)) ?_
        exact hj _ _ _ ⟨e - 1 - (pv - a), _, R4, rfl, rfl, r4, t2.inner p4, by omega, by omega⟩
      · exact hj _ _ _ ⟨pv, hint, R2, rfl, rfl, r3, t2, pv1, pv2⟩
    obtain ⟨pv, hint, R4, rfl, rfl, r4, t4, pv1, pv2⟩ := q
    dsimp only
    -- it may be sorted now
    refine jd_intro (fun v d h' => ∃ (R' : Nat → Nat), v = (.slice b 0 n cap 1 ex, .int .i64 (Int.ofNat a), .int .i64 (Int.ofNat e), .int .i64 lim2, .bool wb2, .bool wp2, .int .i64 (Int.ofNat (e - a)), .int .i64 (Int.ofNat pv), ()) ∧ d = [] ∧ RowR S b n h0 R' h' ∧ Todo n a0 e0 a e R R') (fun j35 hj => ?_) fun v d' h5 q => ?_
    · have go : j35 (.slice b 0 n cap 1 ex, .int .i64 (Int.ofNat a), .int .i64 (Int.ofNat e), .int .i64 lim2, .bool wb2, .bool wp2, .int .i64 (Int.ofNat (e - a)), .int .i64 (Int.ofNat pv), ()) [] h4 := hj _ _ _ ⟨R4, rfl, rfl, r4, t4⟩
      have try63 : s63 (.slice b 0 n cap 1 ex) (Int.ofNat a) (Int.ofNat e) h4 fun b128 h125 => br b128 (leaveK (gam J0 [(56, w56 (rec56 d)), (58, w58 s58), (59, w59 s59), (60, w60 s60), (61, w61 s61), (62, w62 s62), (63, w63 s63), (64, w64 s64), (65, w65 s65), (66, w66 s66)]) [] h125 fun h129 => k h129)
          (j35 (.slice b 0 n cap 1 ex, .int .i64 (Int.ofNat a), .int .i64 (Int.ofNat e), .int .i64 lim2, .bool wb2, .bool wp2, .int .i64 (Int.ofNat (e - a)), .int .i64 (Int.ofNat pv), ()) [] h125) := by
        refine q63 os (by omega) r4 t4.seg (bnT t4).1 (bnT t4).2 t4.pre (by omega) hen fun t h5 R5 r5 p5 d5 => ?_
        cases t with
        | true =>
          repeat with_reducible first | refine jn_r ?_ | refine jb_r ?_ | refine jd_r ?_ | refine brT_r ?_ | refine brF_r ?_ | refine pickT_r ?_ | refine pickF_r ?_ | refine asB_r ?_ | refine asI_r ?_ | refine asS_r ?_ | refine asBUb_r ?_ | refine asBUs_r ?_ | refine lvS_r ?_
          exact hk h5 R5 r5 (t4.inner p5).pin (t4.finish p5 (d5 rfl))
        | false =>
          repeat with_reducible first | refine jn_r ?_ | refine jb_r ?_ | refine jd_r ?_ | refine brT_r ?_ | refine brF_r ?_ | refine pickT_r ?_ | refine pickF_r ?_ | refine asB_r ?_ | refine asI_r ?_ | refine asS_r ?_ | refine asBUb_r ?_ | refine asBUs_r ?_ | refine lvS_r ?_
          exact hj _ _ _ ⟨R5, rfl, rfl, r5, t4.inner p5⟩
      cases wb2 with
      | false =>
        repeat with_reducible first | refine jn_r ?_ | refine jb_r ?_ | refine jd_r ?_ | refine brT_r ?_ | refine brF_r ?_ | refine pickT_r ?_ | refine pickF_r ?_ | refine asB_r ?_ | refine asI_r ?_ | refine asS_r ?_ | refine asBUb_r ?_ | refine asBUs_r ?_ | refine lvS_r ?_
        exact go
      | true =>
        cases wp2 with
        | false =>
          repeat with_reducible first | refine jn_r ?_ | refine jb_r ?_ | refine jd_r ?_ | refine brT_r ?_ | refine brF_r ?_ | refine pickT_r ?_ | refine pickF_r ?_ | refine asB_r ?_ | refine asI_r ?_ | refine asS_r ?_ | refine asBUb_r ?_ | refine asBUs_r ?_ | refine lvS_r ?_
          exact go
        | true =>
          repeat with_reducible first | refine jn_r ?_ | refine jb_r ?_ | refine jd_r ?_ | refine brT_r ?_ | refine brF_r ?_ | refine pickT_r ?_ | refine pickF_r ?_ | refine asB_r ?_ | refine asI_r ?_ | refine asS_r ?_ | refine asBUb_r ?_ | refine asBUs_r ?_ | refine lvS_r ?_
          refine fB_r ?_
          cases eqI hint (Int.ofNat 1) with
          | false =>
            repeat with_reducible first | refine jn_r ?_ | refine jb_r ?_ | refine jd_r ?_ | refine brT_r ?_ | refine brF_r ?_ | refine pickT_r ?_ | refine pickF_r ?_ | refine asB_r ?_ | refine asI_r ?_ | refine asS_r ?_ | refine asBUb_r ?_ | refine asBUs_r ?_ | refine lvS_r ?_
            exact go
          | true =>
            repeat with_reducible first | refine jn_r ?_ | refine jb_r ?_ | refine jd_r ?_ | refine brT_r ?_ | refine brF_r ?_ | refine pickT_r ?_ | refine pickF_r ?_ | refine asB_r ?_ | refine asI_r ?_ | refine asS_r ?_ | refine asBUb_r ?_ | refine asBUs_r ?_ | refine lvS_r ?_
            exact try63
    obtain ⟨R5, rfl, rfl, r5, t5⟩ := q
    dsimp only
    have bn5 := bnT t5
    repeat with_reducible first | refine jn_r ?_ | refine jb_r ?_ | refine jd_r ?_ | refine brT_r ?_ | refine brF_r ?_ | refine pickT_r ?_ | refine pickF_r ?_ | refine asB_r ?_ | refine asI_r ?_ | refine asS_r ?_ | refine asBUb_r ?_ | refine asBUs_r ?_ | refine lvS_r ?_
    refine fBE_r (show ltI (Int.ofNat 0) (Int.ofNat a) = decide (0 < a) from ltD) ?_
    suffices go : True → _ by
      by_cases h0a : 0 < a
      · rw [decide_eq_true h0a]
        repeat with_reducible first | refine jn_r ?_ | refine jb_r ?_ | refine jd_r ?_ | refine brT_r ?_ | refine brF_r ?_ | refine pickT_r ?_ | refine pickF_r ?_ | refine asB_r ?_ | refine asI_r ?_ | refine asS_r ?_ | refine asBUb_r ?_ | refine asBUs_r ?_ | refine lvS_r ?_
        refine fIE_r (dec_nat (by omega) (by omega)) ?_
        repeat with_reducible first | refine jn_r ?_ | refine jb_r ?_ | refine jd_r ?_ | refine brT_r ?_ | refine brF_r ?_ | refine pickT_r ?_ | refine pickF_r ?_ | refine asB_r ?_ | refine asI_r ?_ | refine asS_r ?_ | refine asBUb_r ?_ | refine asBUs_r ?_ | refine lvS_r ?_
        refine ix_r (by omega) ?_
        repeat with_reducible first | refine jn_r ?_ | refine jb_r ?_ | refine jd_r ?_ | refine brT_r ?_ | refine brF_r ?_ | refine pickT_r ?_ | refine pickF_r ?_ | refine asB_r ?_ | refine asI_r ?_ | refine asS_r ?_ | refine asBUb_r ?_ | refine asBUs_r ?_ | refine lvS_r ?_
        refine r5.ld (by omega) ?_
        repeat with_reducible first | refine jn_r ?_ | refine jb_r ?_ | refine jd_r ?_ | refine brT_r ?_ | refine brF_r ?_ | refine pickT_r ?_ | refine pickF_r ?_ | refine asB_r ?_ | refine asI_r ?_ | refine asS_r ?_ | refine asBUb_r ?_ | refine asBUs_r ?_ | refine lvS_r ?_
        refine ix_r (by omega) ?_
        repeat with_reducible first | refine jn_r ?_ | refine jb_r ?_ | refine jd_r ?_ | refine brT_r ?_ | refine brF_r ?_ | refine pickT_r ?_ | refine pickF_r ?_ | refine asB_r ?_ | refine asI_r ?_ | refine asS_r ?_ | refine asBUb_r ?_ | refine asBUs_r ?_ | refine lvS_r ?_
        refine r5.ld (by omega) ?_
        repeat with_reducible first | refine jn_r ?_ | refine jb_r ?_ | refine jd_r ?_ | refine brT_r ?_ | refine brF_r ?_ | refine pickT_r ?_ | refine pickF_r ?_ | refine asB_r ?_ | refine asI_r ?_ | refine asS_r ?_ | refine asBUb_r ?_ | refine asBUs_r ?_ | refine lvS_r ?_
        refine q64 os (bn5.1 _ (by omega)) (bn5.1 _ (by omega)) ?_
        have h1 := t5.pre (a - 1) (by omega)
        have h2 := (t5.seg pv pv1 pv2).1
        rw [decide_eq_true (show R5 (a - 1) < R5 pv by omega)]
        repeat with_reducible first | refine jn_r ?_ | refine jb_r ?_ | refine jd_r ?_ | refine brT_r ?_ | refine brF_r ?_ | refine pickT_r ?_ | refine pickF_r ?_ | refine asB_r ?_ | refine asI_r ?_ | refine asS_r ?_ | refine asBUb_r ?_ | refine asBUs_r ?_ | refine lvS_r ?_
        refine fBE_r (show Bool.not true = false from rfl) ?_
        repeat with_reducible first | refine jn_r ?_ | refine jb_r ?_ | refine jd_r ?_ | refine brT_r ?_ | refine brF_r ?_ | refine pickT_r ?_ | refine pickF_r ?_ | refine asB_r ?_ | refine asI_r ?_ | refine asS_r ?_ | refine asBUb_r ?_ | refine asBUs_r ?_ | refine lvS_r ?_
        exact go trivial
      · rw [decide_eq_false h0a]
        repeat with_reducible first | refine jn_r ?_ | refine jb_r ?_ | refine jd_r ?_ | refine brT_r ?_ | refine brF_r ?_ | refine pickT_r ?_ | refine pickF_r ?_ | refine asB_r ?_ | refine asI_r ?_ | refine asS_r ?_ | refine asBUb_r ?_ | refine asBUs_r ?_ | refine lvS_r ?_
        exact go trivial
    intro _
    refine q66 os (by omega) r5 t5.seg bn5.1 bn5.2 (by omega) hen pv1 pv2 fun mid al h6 R6 m1 m2 r6 p6 lo6 hi6 => ?_
    have t6 := t5.inner p6
    have bn6 := bnT t6
    obtain ⟨hmid, sl, sr⟩ := mid_at t6.seg bn6.2 hen m1 m2 lo6 hi6
    repeat with_reducible first | refine jn_r ?_ | refine jb_r ?_ | refine jd_r ?_ | refine brT_r ?_ | refine brF_r ?_ | refine pickT_r ?_ | refine pickF_r ?_ | refine asB_r ?_ | refine asI_r ?_ | refine asS_r ?_ | refine asBUb_r ?_ | refine asBUs_r ?_ | refine lvS_r ?_
    refine fIE_r (sub_nat (i := mid) (j := a) m1 (by omega)) ?_
    repeat with_reducible first | refine jn_r ?_ | refine jb_r ?_ | refine jd_r ?_ | refine brT_r ?_ | refine brF_r ?_ | refine pickT_r ?_ | refine pickF_r ?_ | refine asB_r ?_ | refine asI_r ?_ | refine asS_r ?_ | refine asBUb_r ?_ | refine asBUs_r ?_ | refine lvS_r ?_
    refine fIE_r (sub_nat (i := e) (j := mid) (by omega) (by omega)) ?_
    repeat with_reducible first | refine jn_r ?_ | refine jb_r ?_ | refine jd_r ?_ | refine brT_r ?_ | refine brF_r ?_ | refine pickT_r ?_ | refine pickF_r ?_ | refine asB_r ?_ | refine asI_r ?_ | refine asS_r ?_ | refine asBUb_r ?_ | refine asBUs_r ?_ | refine lvS_r ?_
    refine ck_intro rfl ?_
    refine fIE_r (div_nat (i := e - a) (j := 8) (by omega)) ?_
    refine fBE_r ltD ?_
    have hd4 : d ≠ 0 := fun e' => by subst e'; have : e0 - a0 < 1 := hd; omega
    obtain ⟨d1, rfl⟩ : ∃ d1, d = d1 + 1 := ⟨d - 1, by omega⟩
    have hpow : (2 : Nat) ^ (d1 + 1) = 2 * 2 ^ d1 := by rw [Nat.pow_succ]; omega
    by_cases hlr : mid - a < e - mid
    · rw [decide_eq_true hlr]
      repeat with_reducible first | refine jn_r ?_ | refine jb_r ?_ | refine jd_r ?_ | refine brT_r ?_ | refine brF_r ?_ | refine pickT_r ?_ | refine pickF_r ?_ | refine asB_r ?_ | refine asI_r ?_ | refine asS_r ?_ | refine asBUb_r ?_ | refine asBUs_r ?_ | refine lvS_r ?_
      refine fB_r ?_
      repeat with_reducible first | refine jn_r ?_ | refine jb_r ?_ | refine jd_r ?_ | refine brT_r ?_ | refine brF_r ?_ | refine pickT_r ?_ | refine pickF_r ?_ | refine asB_r ?_ | refine asI_r ?_ | refine asS_r ?_ | refine asBUb_r ?_ | refine asBUs_r ?_ | refine lvS_r ?_
      refine q56 os hn d1 a mid lim2 m1 (by omega) (by omega) h6 R6 _ r6 sl bn6.1 bn6.2 t6.pre fun h7 R7 r7 p7 d7 => ?_
      refine fIE_r (add_nat (i := mid) (j := 1) (by omega)) ?_
      refine next (e - (mid + 1)) _ _ _ (by omega) ⟨mid + 1, e, lim2, _, al, R7, rfl, rfl, rfl, r7, by omega, by omega, te, t6.pin.trans (p7.up ta (by omega)), fun x x1 x2 => ?_, fun x x1 => ?_, fun x x1 x2 x3 => ?_⟩
      · rw [p7.out x (by omega)]; exact sr x x1 x2
      · by_cases xa : x < a
        · rw [p7.out x (.inl xa)]; have := t6.pre x xa; omega
        · by_cases xm : x < mid
          · rw [d7 x (by omega) xm]; omega
          · have : x = mid := by omega
            rw [this, p7.out mid (by omega), hmid]; omega
      · by_cases xa : a ≤ x ∧ x < mid
        · exact d7 x xa.1 xa.2
        · rw [p7.out x (by omega)]
          by_cases xm : x = mid
          · rw [xm]; exact hmid
          · exact t6.done x x1 x2 (by omega)
    · rw [decide_eq_false hlr]
      repeat with_reducible first | refine jn_r ?_ | refine jb_r ?_ | refine jd_r ?_ | refine brT_r ?_ | refine brF_r ?_ | refine pickT_r ?_ | refine pickF_r ?_ | refine asB_r ?_ | refine asI_r ?_ | refine asS_r ?_ | refine asBUb_r ?_ | refine asBUs_r ?_ | refine lvS_r ?_
      refine fB_r ?_
      refine fIE_r (add_nat (i := mid) (j := 1) (by omega)) ?_
      repeat with_reducible first | refine jn_r ?_ | refine jb_r ?_ | refine jd_r ?_ | refine brT_r ?_ | refine brF_r ?_ | refine pickT_r ?_ | refine pickF_r ?_ | refine asB_r ?_ | refine asI_r ?_ | refine asS_r ?_ | refine asBUb_r ?_ | refine asBUs_r ?_ | refine lvS_r ?_
      have pre' : ∀ x, x < mid + 1 → R6 x < mid + 1 := fun x x1 => by
        by_cases xa : x < a
        · have := t6.pre x xa; omega
        · by_cases xm : x < mid
          · have := (sl x (by omega) xm).2; omega
          · have : x = mid := by omega
            rw [this, hmid]; omega
      refine q56 os hn d1 (mid + 1) e lim2 (by omega) hen (by omega) h6 R6 _ r6 sr bn6.1 bn6.2 pre' fun h7 R7 r7 p7 d7 => ?_
      refine next (mid - a) _ _ _ (by omega) ⟨a, mid, lim2, _, al, R7, rfl, rfl, rfl, r7, ta, m1, by omega, t6.pin.trans (p7.up (by omega) te), fun x x1 x2 => ?_, fun x x1 => ?_, fun x x1 x2 x3 => ?_⟩
      · rw [p7.out x (by omega)]; exact sl x x1 x2
      · rw [p7.out x (by omega)]; exact t6.pre x x1
      · by_cases xa : mid + 1 ≤ x ∧ x < e
        · exact d7 x xa.1 xa.2
        · rw [p7.out x (by omega)]
          by_cases xm : x = mid
          · rw [xm]; exact hmid
          · exact t6.done x x1 x2 (by omega)
theorem q52 {S : Nat → Str} {b n cap : Nat} {ex : Bool} {h0 h : H} {R : Nat → Nat} {k : H → Prop} (os : OrdS S n) (hn : n < 256) (r : RowR S b n h0 R h) (hR : ∀ x, x < n → R x < n) (hi : InjN n R)
    (hk : ∀ h', RowR S b n h0 (fun x => x) h' → k h') : s52 (.slice b 0 n cap 1 ex) h k := by
  show s52G J0 s56 s57 _ h k
  unfold s52G
  show lenK (.slice b 0 n cap 1 ex) _
  rw [show ∀ K : Nat → Prop, lenK (.slice b 0 n cap 1 ex) K = K n from fun K => rfl]
  refine fIE_r (wu64 (by omega)) ?_
  refine q57 hn ?_
  show rec56 64 _ (Int.ofNat 0) _ _ _ _
  have hp : n - 0 < 2 ^ 63 := by have : (2 : Nat) ^ 63 = 9223372036854775808 := rfl; omega
  refine q56 os hn 63 0 n _ (Nat.zero_le _) (Nat.le_refl _) hp h R _ r (fun x _ h2 => ⟨Nat.zero_le _, hR x h2⟩) hR hi (fun x h => by omega) fun h' R' r' p' d' => ?_
  refine hk h' ?_
  obtain ⟨mv, g⟩ := r'.get
  refine ⟨⟨mv, ?_⟩, r'.o, r'.hb, r'.hn⟩
  rw [g]
  congr 1
  apply List.map_congr_left
  intro x hx
  rw [d' x (Nat.zero_le _) (List.mem_range.1 hx)]
end Go.Proofs.Ytiejkbmobmgdkaa
