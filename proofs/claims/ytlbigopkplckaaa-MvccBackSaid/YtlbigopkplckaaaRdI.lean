/- Intents are read back, in the program's words. No condition. -/
import Derived.Test.YtlbigopkplckaaaRdH
namespace Go.Proofs.Ytlbigopkplckaaa
open Go Go.Am
set_option linter.all false
set_option maxRecDepth 100000
def noIn : AV := inAV ⟨0, 0⟩ 0 0 0 0 0 ⟨0, 0⟩ 0 0 0 ⟨0, 0⟩ false
def IntP (K V : List UInt8) (r : AV) (e : Int) : Prop :=
  (∃ key n m bw bl bt anchor w l t val del, okI (Str.of key) n m bw bl bt (Str.of anchor) w l t (Str.of val) del = true ∧ K = 105 :: mid key ∧ V = layB n m bw bl bt anchor w l t val del ∧ r = inAV (Str.of key) n m bw bl bt (Str.of anchor) w l t (Str.of val) del ∧ e = Int.ofNat 0) ∨
  ((∀ key n m bw bl bt anchor w l t val del, okI (Str.of key) n m bw bl bt (Str.of anchor) w l t (Str.of val) del = true → K = 105 :: mid key → V = layB n m bw bl bt anchor w l t val del → False) ∧ r = noIn ∧ e = Int.ofNat 5)
structure InOk (key : List UInt8) (n m bw bl bt : Int) (anchor : List UInt8) (w l t : Int) (val : List UInt8) (del : Bool) : Prop where
  n0 : 0 ≤ n
  n1 : n < 7
  m0 : 1 ≤ m
  m1 : m ≤ 100000
  al : anchor.length ≤ 128
  b : okS bw bl bt = true
  a : okS w l t = true
  d : del = true → val = []
theorem okI_parts {key anchor val : List UInt8} {n m bw bl bt w l t : Int} {del : Bool} (h : okI (Str.of key) n m bw bl bt (Str.of anchor) w l t (Str.of val) del = true) : InOk key n m bw bl bt anchor w l t val del := by
  simp only [okI, Bool.and_eq_true] at h
  obtain ⟨c0, c1, c2, c3, c4, c5, _⟩ := h
  have k := okT_iff c0
  exact ⟨k.1, k.2.1, k.2.2.1, k.2.2.2, (usr_iff c2).2, c4, c5, (wor_iff c3).2⟩
theorem byt_ex {rest out rest' a tail : List UInt8} {bad bad' : Bool} {m : Nat} (h : BytP rest bad m out rest' bad') (hb : bad = false) (hm : m = a.length) (hr : rest = a ++ tail) : out = a ∧ rest' = tail ∧ bad' = false := by
  subst hr hm
  rcases h with ⟨_, h2, rfl, rfl, h5⟩ | ⟨h1, _, _, _⟩
  · exact ⟨by rw [List.take_append_of_le_length (Nat.le_refl _), List.take_of_length_le (Nat.le_refl _)], by rw [List.drop_append_of_le_length (Nat.le_refl _), List.drop_of_length_le (Nat.le_refl _)]; rfl, h5⟩
  · exfalso
    rcases h1 with h1 | h1
    · rw [hb] at h1; cases h1
    · rw [List.length_append] at h1; omega
theorem byt_le {rest out rest' : List UInt8} {bad bad' : Bool} {m : Nat} (h : BytP rest bad m out rest' bad') : rest'.length ≤ rest.length := by
  rcases h with ⟨_, _, _, rfl, _⟩ | ⟨_, _, rfl, _⟩
  · rw [List.length_drop]; omega
  · exact Nat.le_refl _
section
variable {KA : AV → Int → Prop}
theorem t23 {K V : List UInt8} (hlK : K.length ≤ 140737488351232) (hlV : V.length ≤ 140737488351232) (hk : ∀ r e, IntP K V r e → KA r e) : s23G J0 pLay pOf pStR pFlR pTxR pByt pNumR (kvAV K V) H0 fun r e _ => KA r e := by
  conv => whnf
  refine ⟨2, 63, 105, K, false, rfl, rfl, hlK, ⟨Nat.zero_le _, rfl⟩, fun out r1 b1 hOf _ => ?_⟩
  dsimp only [putted]
  conv => whnf
  refine ⟨3, 63, V, false, rfl, ⟨Nat.zero_le _, rfl⟩, hlV, fun n m v1 c1 hTx => ?_⟩
  dsimp only [putted]
  conv => whnf
  refine ⟨3, 63, v1, c1, rfl, ⟨Nat.zero_le _, rfl⟩, fun bw bl bt v2 c2 hSb l2 => ?_⟩
  dsimp only [putted]
  conv => whnf
  refine ⟨3, 63, v2, c2, rfl, ⟨Nat.zero_le _, rfl⟩, fun w l t v3 c3 hSa l3 => ?_⟩
  dsimp only [putted]
  conv => whnf
  refine ⟨3, 63, 128, v3, c3, rfl, rfl, by decide, ⟨Nat.zero_le _, rfl⟩, Nat.le_trans (Nat.le_trans l3 l2) (Nat.le_trans hTx.2 hlV), fun x v4 c4 hN => ?_⟩
  obtain ⟨xv, rfl, hx⟩ := hN.2.1
  dsimp only [putted]
  conv => whnf
  refine ⟨3, 63, xv, v4, c4, rfl, rfl, ⟨Nat.zero_le _, rfl⟩, fun anchor v5 c5 hB => ?_⟩
  dsimp only [putted]
  conv => whnf
  refine ⟨3, 63, v5, c5, rfl, ⟨Nat.zero_le _, rfl⟩, fun d val v6 b3 hFl => ?_⟩
  have X : ∀ key n' m' bw' bl' bt' anchor' w' l' t' val' del', okI (Str.of key) n' m' bw' bl' bt' (Str.of anchor') w' l' t' (Str.of val') del' = true → K = 105 :: mid key → V = layB n' m' bw' bl' bt' anchor' w' l' t' val' del' →
      out = key ∧ n = n' ∧ m = m' ∧ bw = bw' ∧ bl = bl' ∧ bt = bt' ∧ anchor = anchor' ∧ w = w' ∧ l = l' ∧ t = t' ∧ val = val' ∧ d = del' ∧ b1 = false ∧ b3 = false := by
    intro key n' m' bw' bl' bt' anchor' w' l' t' val' del' ho hK hV
    have o := okI_parts ho
    have o0 := o.n0; have o1 := o.n1; have o2 := o.m0; have o3 := o.m1; have o4 := o.al
    obtain ⟨e1, _, e3⟩ := hOf key [] rfl (by rw [hK]; simp)
    unfold layB at hV
    obtain ⟨f1, f2, f3, f4⟩ := hTx.1 n'.toNat m'.toNat _ rfl (by omega) (by omega) hV
    obtain ⟨g1, g2, g3, g4, g5⟩ := hSb bw' bl' bt' _ f4 o.b f3
    obtain ⟨i1, i2, i3, i4, i5⟩ := hSa w' l' t' _ g5 o.a g4
    obtain ⟨j1, j2, j3⟩ := hN.1 anchor'.length _ i5 (by omega) (by omega) i4
    injection j1 with j1
    obtain ⟨k1, k2, k3⟩ := byt_ex hB j3 j1 j2
    obtain ⟨q1, q2, q3⟩ := hFl del' val' k3 o.d k2
    exact ⟨e1, by rw [f1]; exact (toNat_of o.n0).symm, by rw [f2]; exact (toNat_of (by omega)).symm, g1, g2, g3, k1, i1, i2, i3, q2, q1, e3, q3⟩
  dsimp only [putted]
  conv => whnf
  refine ⟨out, n, m, bw, bl, bt, anchor, w, l, t, val, d, rfl, ?_⟩
  dsimp only
  have no : (∀ key n' m' bw' bl' bt' anchor' w' l' t' val' del', okI (Str.of key) n' m' bw' bl' bt' (Str.of anchor') w' l' t' (Str.of val') del' = true → K = 105 :: mid key → V = layB n' m' bw' bl' bt' anchor' w' l' t' val' del' → False) → KA noIn (Int.ofNat 5) := fun h => hk _ _ (.inr ⟨h, rfl, rfl⟩)
  cases hc : okI (Str.of out) n m bw bl bt (Str.of anchor) w l t (Str.of val) d with
  | false =>
    rw [layV, hc]
    conv => whnf
    refine no fun key n' m' bw' bl' bt' anchor' w' l' t' val' del' ho hK hV => ?_
    obtain ⟨rfl, rfl, rfl, rfl, rfl, rfl, rfl, rfl, rfl, rfl, rfl, rfl, _, _⟩ := X _ _ _ _ _ _ _ _ _ _ _ _ ho hK hV
    rw [ho] at hc; cases hc
  | true =>
    rw [layV, hc]
    cases b1 with
    | true =>
      conv => whnf
      refine no fun key n' m' bw' bl' bt' anchor' w' l' t' val' del' ho hK hV => ?_
      obtain ⟨_, _, _, _, _, _, _, _, _, _, _, _, q, _⟩ := X _ _ _ _ _ _ _ _ _ _ _ _ ho hK hV
      cases q
    | false =>
      cases b3 with
      | true =>
        conv => whnf
        refine no fun key n' m' bw' bl' bt' anchor' w' l' t' val' del' ho hK hV => ?_
        obtain ⟨_, _, _, _, _, _, _, _, _, _, _, _, _, q⟩ := X _ _ _ _ _ _ _ _ _ _ _ _ ho hK hV
        cases q
      | false =>
        conv => whnf
        refine rec_intro (fun h1 => ?_) (fun h1 => ?_)
        · conv => whnf
          refine no fun key n' m' bw' bl' bt' anchor' w' l' t' val' del' ho hK hV => ?_
          obtain ⟨rfl, rfl, rfl, rfl, rfl, rfl, rfl, rfl, rfl, rfl, rfl, rfl, _, _⟩ := X _ _ _ _ _ _ _ _ _ _ _ _ ho hK hV
          rw [← hK, beq_self] at h1; cases h1
        · rw [beq_lit] at h1
          have h1 : 105 :: mid out = K := of_decide_eq_true (not_false'.1 h1)
          conv => whnf
          refine rec_intro (fun h2 => ?_) (fun h2 => ?_)
          · conv => whnf
            refine no fun key n' m' bw' bl' bt' anchor' w' l' t' val' del' ho hK hV => ?_
            obtain ⟨rfl, rfl, rfl, rfl, rfl, rfl, rfl, rfl, rfl, rfl, rfl, rfl, _, _⟩ := X _ _ _ _ _ _ _ _ _ _ _ _ ho hK hV
            rw [← hV, beq_self] at h2; cases h2
          · rw [beq_lit] at h2
            have h2 : layB n m bw bl bt anchor w l t val d = V := of_decide_eq_true (not_false'.1 h2)
            conv => whnf
            exact hk _ _ (.inl ⟨out, n, m, bw, bl, bt, anchor, w, l, t, val, d, hc, h1.symm, h2.symm, rfl, rfl⟩)
theorem toNat_inj' {a b : Int} (ha : 0 ≤ a) (hb : 0 ≤ b) (h : a.toNat = b.toNat) : a = b := by omega
theorem IntP.one {K V : List UInt8} {r r' : AV} {e e' : Int} (h1 : IntP K V r e) (h2 : IntP K V r' e') : r = r' ∧ e = e' := by
  rcases h1 with ⟨key, n, m, bw, bl, bt, anchor, w, l, t, val, del, ho, hK, hV, rfl, rfl⟩ | ⟨hn, rfl, rfl⟩ <;> rcases h2 with ⟨key', n', m', bw', bl', bt', anchor', w', l', t', val', del', ho', hK', hV', rfl, rfl⟩ | ⟨hn', rfl, rfl⟩
  · have o := okI_parts ho
    have o' := okI_parts ho'
    rw [hK] at hK'; injection hK' with _ hK'
    obtain ⟨rfl, _⟩ := mid_pre (a := key) (b := key') (x := []) (y := []) (by rw [hK'])
    rw [hV] at hV'
    unfold layB at hV'
    obtain ⟨e1, hV'⟩ := uv_pre hV'
    obtain ⟨e2, hV'⟩ := uv_pre hV'
    obtain ⟨e3, hV'⟩ := List.append_inj hV' (by rw [stB_len, stB_len])
    obtain ⟨e4, hV'⟩ := List.append_inj hV' (by rw [stB_len, stB_len])
    obtain ⟨e5, hV'⟩ := uv_pre hV'
    obtain ⟨e6, e7⟩ := List.append_inj hV' e5
    subst e6
    obtain ⟨rfl, rfl⟩ := flagB_inj o.d o'.d e7
    obtain ⟨rfl, rfl, rfl⟩ := stB_inj o.b o'.b e3
    obtain ⟨rfl, rfl, rfl⟩ := stB_inj o.a o'.a e4
    obtain rfl := toNat_inj' o.n0 o'.n0 e1
    obtain rfl := toNat_inj' (by have := o.m0; omega) (by have := o'.m0; omega) e2
    exact ⟨rfl, rfl⟩
  · exact (hn' _ _ _ _ _ _ _ _ _ _ _ _ ho hK hV).elim
  · exact (hn _ _ _ _ _ _ _ _ _ _ _ _ ho' hK' hV').elim
  · exact ⟨rfl, rfl⟩
end
end Go.Proofs.Ytlbigopkplckaaa
