/- Intents are read back, in the document's words. No condition. -/
import Derived.Test.YtlbigopkplckaaaRdJ
namespace Go.Proofs.Ytlbigopkplckaaa
open Go Go.Am
set_option linter.all false
set_option maxRecDepth 100000
theorem flag_one {v1 out r : List UInt8} {c b : Bool} (h : BytP v1 c 1 out r b) {d : Bool} {v : List UInt8} (hc : c = false) (hd : d = true → v = []) (e : v1 = flagB d v) : decide (out = [1]) = d ∧ r = v ∧ b = false := by
  rw [flag_end hd] at e
  obtain ⟨h1, h2, h3⟩ := byt_ex (a := [cond d 1 0]) (tail := v) h hc rfl e
  subst h1
  refine ⟨?_, h2, h3⟩
  cases d <;> rfl
section
variable {KA : AV → Int → Prop}
theorem t24 {K V : List UInt8} (hlK : K.length ≤ 140737488351232) (hlV : V.length ≤ 140737488351232) (hk : ∀ r e, IntP K V r e → KA r e) : s24G J0 pLay pUm pNumR pStR pByt (kvAV K V) H0 fun r e _ => KA r e := by
  unfold s24G
  obtain ⟨S, hS⟩ : ∃ S, S = subK := ⟨_, rfl⟩
  rw [← hS]
  have S1 : ∀ (l : List UInt8) (m : Nat), m ≤ l.length → ∀ k, S (.str (Str.of l)) (some (.int .i64 (Int.ofNat m))) none k = k (Str.of (l.drop m)) := fun l m h k => by rw [hS]; exact subK_hi h k
  clear hS
  simp only [fI_eq]
  conv => whnf
  by_cases hK0 : K.length < 1
  · refine rec_true (lt_ltI hK0) ?_
    conv => whnf
    refine hk _ _ (.inr ⟨fun key n m bw bl bt anchor w l t val del _ hK _ => ?_, rfl, rfl⟩)
    rw [hK] at hK0; simp at hK0
  refine rec_false (ge_ltI (by show 1 ≤ K.length; omega)) ?_
  conv => whnf
  rw [S1 K 1 (by omega)]
  refine ⟨K.drop 1, rfl, by rw [List.length_drop]; omega, fun out _ ok hU => ?_⟩
  conv => whnf
  refine ⟨2, 97, 100, V, false, rfl, rfl, by decide, ⟨Nat.zero_le _, rfl⟩, hlV, fun n v1 c1 hN1 => ?_⟩
  dsimp only [putted]
  conv => whnf
  refine ⟨2, 97, 1073741824, v1, c1, rfl, rfl, by decide, ⟨Nat.zero_le _, rfl⟩, Nat.le_trans hN1.2.2 hlV, fun m v2 c2 hN2 => ?_⟩
  dsimp only [putted]
  conv => whnf
  refine ⟨2, 97, v2, c2, rfl, ⟨Nat.zero_le _, rfl⟩, fun bw bl bt v3 c3 hSb l3 => ?_⟩
  dsimp only [putted]
  conv => whnf
  refine ⟨2, 97, v3, c3, rfl, ⟨Nat.zero_le _, rfl⟩, fun w l t v4 c4 hSa l4 => ?_⟩
  dsimp only [putted]
  conv => whnf
  refine ⟨2, 97, 128, v4, c4, rfl, rfl, by decide, ⟨Nat.zero_le _, rfl⟩, Nat.le_trans (Nat.le_trans (Nat.le_trans (Nat.le_trans l4 l3) hN2.2.2) hN1.2.2) hlV, fun x v5 c5 hN => ?_⟩
  obtain ⟨xv, rfl, hx⟩ := hN.2.1
  dsimp only [putted]
  conv => whnf
  refine ⟨2, 97, xv, v5, c5, rfl, rfl, ⟨Nat.zero_le _, rfl⟩, fun anchor v6 c6 hB => ?_⟩
  dsimp only [putted]
  conv => whnf
  refine ⟨2, 97, 1, v6, c6, rfl, rfl, ⟨Nat.zero_le _, rfl⟩, fun dt v7 c7 hD => ?_⟩
  dsimp only [putted]
  conv => whnf
  have X : ∀ key n' m' bw' bl' bt' anchor' w' l' t' val' del', okI (Str.of key) n' m' bw' bl' bt' (Str.of anchor') w' l' t' (Str.of val') del' = true → K = 105 :: mid key → V = layB n' m' bw' bl' bt' anchor' w' l' t' val' del' →
      out = key ∧ wrapF .i32 n = n' ∧ wrapF .i32 m = m' ∧ bw = bw' ∧ bl = bl' ∧ bt = bt' ∧ anchor = anchor' ∧ w = w' ∧ l = l' ∧ t = t' ∧ v7 = val' ∧ decide (dt = [1]) = del' ∧ ok = true ∧ c7 = false := by
    intro key n' m' bw' bl' bt' anchor' w' l' t' val' del' ho hK hV
    have o := okI_parts ho
    have o0 := o.n0; have o1 := o.n1; have o2 := o.m0; have o3 := o.m1; have o4 := o.al
    obtain ⟨e1, _, e3⟩ := hU.1 key [] (by rw [hK]; simp)
    unfold layB at hV
    obtain ⟨f1, f2, f3⟩ := hN1.1 n'.toNat _ rfl (by omega) (by omega) hV
    obtain ⟨f4, f5, f6⟩ := hN2.1 m'.toNat _ f3 (by omega) (by omega) f2
    obtain ⟨g1, g2, g3, g4, g5⟩ := hSb bw' bl' bt' _ f6 o.b f5
    obtain ⟨i1, i2, i3, i4, i5⟩ := hSa w' l' t' _ g5 o.a g4
    obtain ⟨j1, j2, j3⟩ := hN.1 anchor'.length _ i5 (by omega) (by omega) i4
    injection j1 with j1
    obtain ⟨k1, k2, k3⟩ := byt_ex hB j3 j1 j2
    obtain ⟨q1, q2, q3⟩ := flag_one hD k3 o.d k2
    refine ⟨e1, ?_, ?_, g1, g2, g3, k1, i1, i2, i3, q2, q1, e3, q3⟩
    · rw [f1, ← toNat_of o.n0, wrap_i32_in (by omega) (by omega)]
    · rw [f4, ← toNat_of (by omega), wrap_i32_in (by omega) (by omega)]
  have no : (∀ key n' m' bw' bl' bt' anchor' w' l' t' val' del', okI (Str.of key) n' m' bw' bl' bt' (Str.of anchor') w' l' t' (Str.of val') del' = true → K = 105 :: mid key → V = layB n' m' bw' bl' bt' anchor' w' l' t' val' del' → False) → KA noIn (Int.ofNat 5) := fun h => hk _ _ (.inr ⟨h, rfl, rfl⟩)
  have bq : Str.beq (Str.of dt) (Str.of [1]) = decide (dt = [1]) := beq_lit _ _
  generalize wrapF .i32 n = n0 at X ⊢
  generalize wrapF .i32 m = m0 at X ⊢
  refine rec_intro (fun hd => ?_) (fun hd => ?_)
  · have hd : decide (dt = [1]) = true := bq.symm.trans hd
    rw [hd] at X
    conv => whnf
    refine ⟨out, n0, m0, bw, bl, bt, anchor, w, l, t, v7, true, rfl, ?_⟩
    dsimp only
    cases hc : okI (Str.of out) n0 m0 bw bl bt (Str.of anchor) w l t (Str.of v7) true with
    | false =>
      rw [layV, hc]
      have no := no fun key n' m' bw' bl' bt' anchor' w' l' t' val' del' ho hK hV => by
        obtain ⟨rfl, rfl, rfl, rfl, rfl, rfl, rfl, rfl, rfl, rfl, rfl, rfl, _, _⟩ := X _ _ _ _ _ _ _ _ _ _ _ _ ho hK hV
        rw [ho] at hc; cases hc
      cases ok <;> cases c7 <;> (conv => whnf) <;> exact no
    | true =>
      rw [layV, hc]
      cases ok with
      | false =>
        conv => whnf
        refine no fun key n' m' bw' bl' bt' anchor' w' l' t' val' del' ho hK hV => ?_
        obtain ⟨_, _, _, _, _, _, _, _, _, _, _, _, q, _⟩ := X _ _ _ _ _ _ _ _ _ _ _ _ ho hK hV
        cases q
      | true =>
        cases c7 with
        | true =>
          conv => whnf
          refine no fun key n' m' bw' bl' bt' anchor' w' l' t' val' del' ho hK hV => ?_
          obtain ⟨_, _, _, _, _, _, _, _, _, _, _, _, _, q⟩ := X _ _ _ _ _ _ _ _ _ _ _ _ ho hK hV
          cases q
        | false =>
          conv => whnf
          refine rec_intro (fun h1 => ?_) (fun h1 => ?_)
          · conv => whnf
            refine no fun key n' m' bw' bl' bt' anchor' w' l' t' val' del' ho hK hV => ?_
            obtain ⟨rfl, rfl, rfl, rfl, rfl, rfl, rfl, rfl, rfl, rfl, rfl, rfl, _, _⟩ := X _ _ _ _ _ _ _ _ _ _ _ _ ho hK hV
            rw [← hK, beq_self] at h1; cases h1
          · rw [beq_lit] at h1
            have h1 : 105 :: mid out = K := of_decide_eq_true (not_false'.1 h1)
            conv => whnf
            refine rec_intro (fun h2 => ?_) (fun h2 => ?_)
            · conv => whnf
              refine no fun key n' m' bw' bl' bt' anchor' w' l' t' val' del' ho hK hV => ?_
              obtain ⟨rfl, rfl, rfl, rfl, rfl, rfl, rfl, rfl, rfl, rfl, rfl, rfl, _, _⟩ := X _ _ _ _ _ _ _ _ _ _ _ _ ho hK hV
              rw [← hV, beq_self] at h2; cases h2
            · rw [beq_lit] at h2
              have h2 : layB n0 m0 bw bl bt anchor w l t v7 true = V := of_decide_eq_true (not_false'.1 h2)
              conv => whnf
              exact hk _ _ (.inl ⟨out, n0, m0, bw, bl, bt, anchor, w, l, t, v7, true, hc, h1.symm, h2.symm, rfl, rfl⟩)
  · have hd : decide (dt = [1]) = false := bq.symm.trans hd
    rw [hd] at X
    conv => whnf
    refine ⟨out, n0, m0, bw, bl, bt, anchor, w, l, t, v7, false, rfl, ?_⟩
    dsimp only
    cases hc : okI (Str.of out) n0 m0 bw bl bt (Str.of anchor) w l t (Str.of v7) false with
    | false =>
      rw [layV, hc]
      have no := no fun key n' m' bw' bl' bt' anchor' w' l' t' val' del' ho hK hV => by
        obtain ⟨rfl, rfl, rfl, rfl, rfl, rfl, rfl, rfl, rfl, rfl, rfl, rfl, _, _⟩ := X _ _ _ _ _ _ _ _ _ _ _ _ ho hK hV
        rw [ho] at hc; cases hc
      cases ok <;> cases c7 <;> (conv => whnf) <;> exact no
    | true =>
      rw [layV, hc]
      cases ok with
      | false =>
        conv => whnf
        refine no fun key n' m' bw' bl' bt' anchor' w' l' t' val' del' ho hK hV => ?_
        obtain ⟨_, _, _, _, _, _, _, _, _, _, _, _, q, _⟩ := X _ _ _ _ _ _ _ _ _ _ _ _ ho hK hV
        cases q
      | true =>
        cases c7 with
        | true =>
          conv => whnf
          refine no fun key n' m' bw' bl' bt' anchor' w' l' t' val' del' ho hK hV => ?_
          obtain ⟨_, _, _, _, _, _, _, _, _, _, _, _, _, q⟩ := X _ _ _ _ _ _ _ _ _ _ _ _ ho hK hV
          cases q
        | false =>
          conv => whnf
          refine rec_intro (fun h1 => ?_) (fun h1 => ?_)
          · conv => whnf
            refine no fun key n' m' bw' bl' bt' anchor' w' l' t' val' del' ho hK hV => ?_
            obtain ⟨rfl, rfl, rfl, rfl, rfl, rfl, rfl, rfl, rfl, rfl, rfl, rfl, _, _⟩ := X _ _ _ _ _ _ _ _ _ _ _ _ ho hK hV
            rw [← hK, beq_self] at h1; cases h1
          · rw [beq_lit] at h1
            have h1 : 105 :: mid out = K := of_decide_eq_true (not_false'.1 h1)
            conv => whnf
            refine rec_intro (fun h2 => ?_) (fun h2 => ?_)
            · conv => whnf
              refine no fun key n' m' bw' bl' bt' anchor' w' l' t' val' del' ho hK hV => ?_
              obtain ⟨rfl, rfl, rfl, rfl, rfl, rfl, rfl, rfl, rfl, rfl, rfl, rfl, _, _⟩ := X _ _ _ _ _ _ _ _ _ _ _ _ ho hK hV
              rw [← hV, beq_self] at h2; cases h2
            · rw [beq_lit] at h2
              have h2 : layB n0 m0 bw bl bt anchor w l t v7 false = V := of_decide_eq_true (not_false'.1 h2)
              conv => whnf
              exact hk _ _ (.inl ⟨out, n0, m0, bw, bl, bt, anchor, w, l, t, v7, false, hc, h1.symm, h2.symm, rfl, rfl⟩)
end
end Go.Proofs.Ytlbigopkplckaaa
