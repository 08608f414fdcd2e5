/- Numbers read from bytes, in the program's words and in the document's; what readers read of them. No condition. -/
import Derived.Test.YtlbigopkplckaaaRdG
namespace Go.Proofs.Ytlbigopkplckaaa
open Go Go.Am
set_option linter.all false
set_option maxRecDepth 100000
def SmP (b : List UInt8) (mo : Nat) (x m e : Int) : Prop := (∀ (v : Nat) (tail : List UInt8), v < 9223372036854775808 → v ≤ mo → b = uv v ++ tail → x = Int.ofNat v ∧ m = Int.ofNat (uv v).length ∧ e = Int.ofNat 0) ∧ ∃ xv mv : Nat, x = Int.ofNat xv ∧ xv ≤ mo ∧ m = Int.ofNat mv ∧ mv ≤ b.length
section
variable {KR : Int → Int → Int → H → Prop}
/-- what is made of a number that was read -/
theorem small_ok {b : List UInt8} {mo : Nat} (hmo : mo < 9223372036854775808) {x m e : Int} {h : H} (hR : ReP b x m e) (hk : ∀ x m e, SmP b mo x m e → KR x m e h) :
    (fB (Bool.not (eqI e (Int.ofNat 0))) fun b5 =>
      J0.jn (fun v6 h7 =>
      J0.jn (fun v9 h10 =>
      pickB (AV.bool b5) (AV.bool true) v9 fun b14 =>
      J0.jn (fun v15 h16 =>
      J0.jn (fun v18 h19 =>
      J0.jn (fun v21 h22 =>
      J0.jn (fun v26 h27 =>
      pickB (AV.bool b14) (AV.bool true) v26 fun b32 =>
      br b32 (
      KR (Int.ofNat 0) (Int.ofNat 0) (Int.ofNat 5) h27) (
      fI (wrapF .i64 x) fun x33 =>
      KR x33 m (Int.ofNat 0) h27)) fun j28 =>
      br b14 (
      j28 skipV h22) (
      asI .u64 v15 fun x29 =>
      asI .u64 v21 fun x30 =>
      fB (ltI x30 x29) fun b31 =>
      j28 (AV.bool b31) h22)) fun j23 =>
      br b14 (
      j23 skipV h19) (
      asI .i64 v18 fun x24 =>
      fI (wrapF .u64 x24) fun x25 =>
      j23 (AV.int .u64 x25) h19)) fun j20 =>
      br b14 (
      j20 skipV h16) (
      j20 (AV.int .i64 (Int.ofNat mo)) h16)) fun j17 =>
      br b14 (
      j17 skipV h10) (
      j17 (AV.int .u64 x) h10)) fun j11 =>
      br b5 (
      j11 skipV h7) (
      asI .i64 v6 fun x12 =>
      fB (ltI x12 (Int.ofNat 0)) fun b13 =>
      j11 (AV.bool b13) h7)) fun j8 =>
      br b5 (
      j8 skipV h) (
      j8 (AV.int .i64 (Int.ofNat mo)) h)) := by
  rw [fB_eq]
  have none1 : (∀ (v : Nat) (tail : List UInt8), v < 9223372036854775808 → v ≤ mo → b = uv v ++ tail → False) → KR (Int.ofNat 0) (Int.ofNat 0) (Int.ofNat 5) h := fun hn => hk _ _ _ ⟨fun v tail h1 h2 h3 => (hn v tail h1 h2 h3).elim, 0, 0, rfl, Nat.zero_le _, rfl, Nat.zero_le _⟩
  by_cases he : e = Int.ofNat 0
  · obtain ⟨xv, mv, rfl, hx, rfl, hm⟩ := hR.2 he
    have hR1 := hR.1
    subst he
    rw [eqI_true.2 rfl, Bool.not_true]
    have c0 : ltI (Int.ofNat mo) (Int.ofNat 0) = false := ge_ltI (Nat.zero_le _)
    have cm : wrapF .u64 (Int.ofNat mo) = Int.ofNat mo := wrapF_nat (kk := .u64) (by show mo < 18446744073709551616; omega)
    by_cases hmx : mo < xv
    · have c1 := lt_ltI hmx
      simp only [↓jn_is, ↓br_t, ↓br_f, ↓pickB_t, ↓pickB_f, ↓asB_bool, ↓asI_int, ↓fB_eq, ↓fI_eq, c0, cm, c1]
      refine none1 fun v tail h1 h2 h3 => ?_
      obtain ⟨e1, _, _⟩ := hR1 v tail h1 h3
      injection e1 with e1; omega
    · have c1 : ltI (Int.ofNat mo) (Int.ofNat xv) = false := ge_ltI (by omega)
      have cx : wrapF .i64 (Int.ofNat xv) = Int.ofNat xv := wrapF_nat (kk := .i64) (by show xv < 9223372036854775808; omega)
      simp only [↓jn_is, ↓br_t, ↓br_f, ↓pickB_t, ↓pickB_f, ↓asB_bool, ↓asI_int, ↓fB_eq, ↓fI_eq, c0, cm, c1, cx]
      exact hk _ _ _ ⟨fun v tail h1 h2 h3 => hR1 v tail h1 h3, xv, mv, rfl, by omega, rfl, hm⟩
  · rw [eqI_false.2 he, Bool.not_false]
    simp only [↓jn_is, ↓br_t, ↓br_f, ↓pickB_t, ↓pickB_f, ↓asB_bool, ↓asI_int]
    refine none1 fun v tail h1 h2 h3 => ?_
    exact he (hR.1 v tail h1 h3).2.2
theorem t76 {g : Bool} {n mo : Nat} {h : H} {a : AV} {b : List UInt8} (r : Row g 5 n h a b) (hl : b.length ≤ 140737488351232) (hmo : mo < 9223372036854775808) (hk : ∀ x m e, SmP b mo x m e → KR x m e h) : s76G J0 (s85G J0) a (Int.ofNat mo) h KR := by
  unfold s76G
  refine t85 r hl fun x m e hR => ?_
  exact small_ok hmo hR hk
end
/-! ## a reader's number -/
def NumP (rest : List UInt8) (bad : Bool) (mo : Nat) (x : Int) (rest' : List UInt8) (bad' : Bool) : Prop := (∀ (v : Nat) (tail : List UInt8), bad = false → v < 9223372036854775808 → v ≤ mo → rest = uv v ++ tail → x = Int.ofNat v ∧ rest' = tail ∧ bad' = false) ∧
  (∃ xv : Nat, x = Int.ofNat xv ∧ xv ≤ mo) ∧ rest'.length ≤ rest.length
section
variable {KI : Int → H → Prop}
theorem num_tail {T mo : Nat} {rest : List UInt8} {bad : Bool} {x m e : Int} {h : H} (hg : h.get 0 = .cells false T (rdC rest bad)) (hb : h.base = 0) (hn : 0 < h.next) (hS : SmP rest mo x m e) (hk : ∀ x rest' bad' h1, NumP rest bad mo x rest' bad' → h1.get 0 = .cells false T (rdC rest' bad') → KI x h1) :
    okNil (.ptr 0 0) (faK 1 (.ptr 0 0) fun p9 => ldB p9 h fun b10 =>
      J0.jn (fun v11 h12 =>
      J0.jn (fun v14 h15 =>
      pickB (AV.bool b10) (AV.bool true) v14 fun b19 =>
      br b19 (
      okNil (.ptr 0 0) (
      faK 1 (.ptr 0 0) fun p20 =>
      stV p20 (AV.bool true) h15 fun h21 =>
      KI (Int.ofNat 0) h21)) (
      okNil (.ptr 0 0) (
      faK 0 (.ptr 0 0) fun p22 =>
      ldS p22 h15 fun s23 =>
      subK (AV.str s23) (some (AV.int .i64 m)) none fun s24 =>
      okNil (.ptr 0 0) (
      faK 0 (.ptr 0 0) fun p25 =>
      stV p25 (AV.str s24) h15 fun h26 =>
      KI x h26)))) fun j16 =>
      br b10 (
      j16 skipV h12) (
      asI .i64 v11 fun x17 =>
      fB (Bool.not (eqI x17 (Int.ofNat 0))) fun b18 =>
      j16 (AV.bool b18) h12)) fun j13 =>
      br b10 (
      j13 skipV h) (
      j13 (AV.int .i64 e) h)) := by
  rw [okNil_ptr, faK_ptr, ldB_at hg (x := bad) rfl]
  obtain ⟨hS1, xv, mv, rfl, hxm, rfl, hml⟩ := hS
  have fail : (∀ (v : Nat) (tail : List UInt8), bad = false → v < 9223372036854775808 → v ≤ mo → rest = uv v ++ tail → False) → stV (.ptr 0 1) (.bool true) h fun h21 => KI (Int.ofNat 0) h21 := fun hf => by
    rw [stV_at hg rfl (cs' := rdC rest true) rfl hn (by omega)]
    exact hk _ rest true _ ⟨fun v tail h1 h2 h3 h4 => (hf v tail h1 h2 h3 h4).elim, ⟨0, rfl, Nat.zero_le _⟩, Nat.le_refl _⟩ (by rw [putted_get _ _ _ hn, if_pos rfl])
  cases bad with
  | true =>
    simp only [↓jn_is, ↓br_t, ↓br_f, ↓pickB_t, ↓pickB_f, ↓asB_bool, ↓asI_int, ↓okNil_ptr, ↓faK_ptr]
    exact fail fun v tail h1 _ _ _ => by cases h1
  | false =>
    simp only [↓jn_is, ↓br_t, ↓br_f, ↓pickB_t, ↓pickB_f, ↓asB_bool, ↓asI_int, ↓okNil_ptr, ↓faK_ptr]
    rw [fB_eq]
    by_cases he : e = Int.ofNat 0
    · rw [eqI_true.2 he, Bool.not_true]
      simp only [↓jn_is, ↓br_t, ↓br_f, ↓pickB_t, ↓pickB_f, ↓asB_bool, ↓asI_int, ↓okNil_ptr, ↓faK_ptr]
      rw [ldS_at hg (x := Str.of rest) rfl, subK_hi hml, stV_at hg rfl (cs' := rdC (rest.drop mv) false) rfl hn (by omega)]
      refine hk _ (rest.drop mv) false _ ⟨fun v tail h1 h2 h3 h4 => ?_, ⟨xv, rfl, hxm⟩, by rw [List.length_drop]; omega⟩ (by rw [putted_get _ _ _ hn, if_pos rfl])
      obtain ⟨e1, e2, _⟩ := hS1 v tail h2 h3 h4
      injection e2 with e2
      refine ⟨e1, ?_, rfl⟩
      rw [h4, e2, List.drop_append_of_le_length (Nat.le_refl _), List.drop_of_length_le (Nat.le_refl _)]; rfl
    · rw [eqI_false.2 he, Bool.not_false]
      simp only [↓jn_is, ↓br_t, ↓br_f, ↓pickB_t, ↓pickB_f, ↓asB_bool, ↓asI_int, ↓okNil_ptr, ↓faK_ptr]
      exact fail fun v tail _ h2 h3 h4 => he (hS1 v tail h2 h3 h4).2.2
theorem t59 {T mo : Nat} {rest : List UInt8} {bad : Bool} (hl : rest.length ≤ 140737488351232) (hmo : mo < 9223372036854775808) (hk : ∀ x rest' bad' h1, NumP rest bad mo x rest' bad' → h1.get 0 = .cells false T (rdC rest' bad') → KI x h1) : s59G J0 (s76G J0 (s85G J0)) (.ptr 0 0) (Int.ofNat mo) (rdH T rest bad) KI := by
  unfold s59G
  rw [okNil_ptr, faK_ptr, ldS_at (rdH_get T rest bad) (x := Str.of rest) rfl]
  refine push_out _ _ _ fun h4 lo g4 n4 => ?_
  have hn : (rdH T rest bad).next = 1 := rfl
  have r : Row true 5 1 h4 (.slice 1 0 rest.length rest.length 1 false) rest := .inr ⟨1, false, true, rfl, Nat.le_refl _, by omega, g4, fun h => by cases h⟩
  have g0 : h4.get 0 = .cells false T (rdC rest bad) := (lo.get 0 Nat.one_pos).trans (rdH_get T rest bad)
  refine t76 r hl hmo fun x m e hS => ?_
  exact num_tail g0 lo.base (by omega) hS hk
noncomputable def pNumR : AV → Int → H → (Int → H → Prop) → Prop := fun a n h k => ∃ (id T mo : Nat) (rest : List UInt8) (bad : Bool), a = .ptr id 0 ∧ n = Int.ofNat mo ∧ mo < 9223372036854775808 ∧ RdAt h id T rest bad ∧ rest.length ≤ 140737488351232 ∧
  ∀ x rest' bad', NumP rest bad mo x rest' bad' → k x (putted h id (.cells false T (rdC rest' bad')))
/-! ## a reader's transaction -/
def TxP (rest : List UInt8) (bad : Bool) (n m : Int) (rest' : List UInt8) (bad' : Bool) : Prop := (∀ (a b : Nat) (tail : List UInt8), bad = false → a ≤ 7 → b ≤ 1048576 → rest = uv a ++ (uv b ++ tail) → n = Int.ofNat a ∧ m = Int.ofNat b ∧ rest' = tail ∧ bad' = false) ∧ rest'.length ≤ rest.length
variable {KA : AV → H → Prop}
theorem t57 {T : Nat} {rest : List UInt8} {bad : Bool} (hl : rest.length ≤ 140737488351232) (hk : ∀ n m rest' bad' h1, TxP rest bad n m rest' bad' → h1.get 0 = .cells false T (rdC rest' bad') → KA (txAV n m) h1) : s57G J0 pNumR (.ptr 0 0) (rdH T rest bad) KA := by
  unfold s57G
  simp only [fI_eq]
  conv => whnf
  refine ⟨0, T, 7, rest, bad, rfl, rfl, by decide, ⟨Nat.le_refl _, rfl⟩, hl, fun x r1 b1 hN => ?_⟩
  conv => whnf
  refine ⟨0, T, 1048576, r1, b1, rfl, rfl, by decide, ⟨Nat.le_refl _, rfl⟩, Nat.le_trans hN.2.2 hl, fun y r2 b2 hM => ?_⟩
  conv => whnf
  refine hk (wrapF .i32 x) (wrapF .i32 y) r2 b2 _ ⟨fun a b tail h1 h2 h3 h4 => ?_, Nat.le_trans hM.2.2 hN.2.2⟩ rfl
  obtain ⟨e1, e2, e3⟩ := hN.1 a _ h1 (by omega) h2 h4
  obtain ⟨e4, e5, e6⟩ := hM.1 b tail e3 (by omega) h3 e2
  refine ⟨?_, ?_, e5, e6⟩
  · rw [e1, wrap_i32_in (by show (-2147483648 : Int) ≤ (a : Int); omega) (by show (a : Int) < 2147483648; omega)]
  · rw [e4, wrap_i32_in (by show (-2147483648 : Int) ≤ (b : Int); omega) (by show (b : Int) < 2147483648; omega)]
noncomputable def pTxR : AV → H → (AV → H → Prop) → Prop := fun a h k => ∃ (id T : Nat) (rest : List UInt8) (bad : Bool), a = .ptr id 0 ∧ RdAt h id T rest bad ∧ rest.length ≤ 140737488351232 ∧
  ∀ n m rest' bad', TxP rest bad n m rest' bad' → k (txAV n m) (putted h id (.cells false T (rdC rest' bad')))
end
end Go.Proofs.Ytlbigopkplckaaa
