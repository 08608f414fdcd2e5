/- Cells in the document's words; numbers read from bytes. No condition. -/
import Derived.Test.YtlbigopkplckaaaRdE
namespace Go.Proofs.Ytlbigopkplckaaa
open Go Go.Am
set_option linter.all false
set_option maxRecDepth 100000
theorem eqI_bc (c d : UInt8) : eqI (bI c) (Int.ofNat d.toNat) = decide (c = d) := by
  by_cases h : c = d
  · subst h; rw [decide_eq_true rfl]; exact eqI_true.2 rfl
  · rw [decide_eq_false h, eqI_false]
    intro h2
    have h2 : Int.ofNat c.toNat = Int.ofNat d.toNat := h2
    injection h2 with h2
    exact h (UInt8.toNat_inj.1 h2)
section
variable {KA : AV → Int → Prop}
theorem t22 {K V : List UInt8} (hlK : K.length ≤ 140737488351232) (hk : ∀ r e, CellP K V r e → KA r e) : s22G J0 pPut pUm pUns (kvAV K V) H0 fun r e _ => KA r e := by
  unfold s22G
  obtain ⟨S, hS⟩ : ∃ S, S = subK := ⟨_, rfl⟩
  obtain ⟨X, hX⟩ : ∃ X, X = ixsK := ⟨_, rfl⟩
  rw [← hS, ← hX]
  simp only [fI_eq]
  have S1 : ∀ (l : List UInt8) (m : Nat), m ≤ l.length → ∀ k, S (.str (Str.of l)) (some (.int .i64 (Int.ofNat m))) none k = k (Str.of (l.drop m)) := fun l m h k => by rw [hS]; exact subK_hi h k
  have X1 : ∀ (l : List UInt8) (h : 0 < l.length) k, X (.str (Str.of l)) (.int .i64 (Int.ofNat 0)) k = k (bI l[0]) := fun l h k => by rw [hX]; exact ixs_of h k
  clear hS hX
  have none1 : K.length < 1 ∨ V.length < 1 → KA noCe (Int.ofNat 5) := fun h => hk _ _ (.inr ⟨fun key w l t val del ho hK hV => by
    obtain ⟨_, _, o3⟩ := okC_parts ho
    rw [flag_end o3] at hV
    rcases h with h | h
    · rw [hK] at h; simp at h
    · rw [hV] at h; simp at h, rfl, rfl⟩)
  conv => whnf
  by_cases hK0 : K.length < 1
  · refine rec_true (lt_ltI hK0) ?_
    conv => whnf
    exact none1 (.inl hK0)
  refine rec_false (ge_ltI (by show 1 ≤ K.length; omega)) ?_
  conv => whnf
  by_cases hV0 : V.length < 1
  · refine rec_true (lt_ltI hV0) ?_
    conv => whnf
    exact none1 (.inr hV0)
  refine rec_false (ge_ltI (by show 1 ≤ V.length; omega)) ?_
  conv => whnf
  rw [S1 K 1 (by omega)]
  refine ⟨K.drop 1, rfl, by rw [List.length_drop]; omega, fun out n ok hU => ?_⟩
  conv => whnf
  cases ok with
  | false =>
    conv => whnf
    refine hk _ _ (.inr ⟨fun key w l t val del ho hK hV => ?_, rfl, rfl⟩)
    obtain ⟨_, _, e⟩ := hU.1 key (stB w l t) (by rw [hK]; rfl)
    cases e
  | true =>
    obtain ⟨m, rfl, hm⟩ := hU.2 rfl
    rw [List.length_drop] at hm
    conv => whnf
    have e1 : wrapF .i64 (Int.add (Int.ofNat 1) (Int.ofNat m)) = Int.ofNat (1 + m) := wrapF_nat (kk := .i64) (m := 1 + m) (by show 1 + m < 9223372036854775808; omega)
    rw [e1, S1 K (1 + m) (by omega)]
    refine ⟨_, rfl, fun w l t e hUn => ?_⟩
    conv => whnf
    rw [S1 V 1 (by omega)]
    conv => whnf
    rw [X1 V (by omega)]
    have fit : ∀ key w' l' t' val' del', okC (Str.of key) w' l' t' (Str.of val') del' = true → K = 99 :: (mid key ++ stB w' l' t') → V = flagB del' val' → out = key ∧ w = w' ∧ l = l' ∧ t = t' ∧ V.drop 1 = val' ∧ decide (V[0] = 1) = del' ∧ e = Int.ofNat 0 := by
      intro key w' l' t' val' del' ho hK hV
      obtain ⟨o1, o2, o3⟩ := okC_parts ho
      obtain ⟨q1, q2, _⟩ := hU.1 key (stB w' l' t') (by rw [hK]; rfl)
      injection q2 with q2
      have q3 : K.drop (1 + m) = stB w' l' t' := by
        rw [hK, q2, Nat.add_comm]
        show (mid key ++ stB w' l' t').drop (mid key).length = _
        rw [List.drop_append_of_le_length (Nat.le_refl _), List.drop_of_length_le (Nat.le_refl _)]; rfl
      obtain ⟨q4, q5, q6, q7⟩ := hUn w' l' t' o2 q3
      rw [flag_end o3] at hV
      subst hV
      refine ⟨q1, q4, q5, q6, rfl, ?_, q7⟩
      cases del' <;> rfl
    have e2 : eqI (bI V[0]) (Int.ofNat 1) = decide (V[0] = 1) := eqI_bc V[0] 1
    rw [e2]
    generalize hd : decide (V[0] = 1) = d at fit
    conv => whnf
    have body : ∀ d', d' = d → KA (if okC (Str.of out) w l t (Str.of (V.drop 1)) d' = true ∧ e = Int.ofNat 0 ∧ 99 :: (mid out ++ stB w l t) = K ∧ flagB d' (V.drop 1) = V then ceAV (Str.of out) w l t (Str.of (V.drop 1)) d' else noCe)
        (if okC (Str.of out) w l t (Str.of (V.drop 1)) d' = true ∧ e = Int.ofNat 0 ∧ 99 :: (mid out ++ stB w l t) = K ∧ flagB d' (V.drop 1) = V then Int.ofNat 0 else Int.ofNat 5) := by
      rintro d' rfl
      split
      · rename_i hc; exact hk _ _ (.inl ⟨out, w, l, t, V.drop 1, d', hc.1, hc.2.2.1.symm, hc.2.2.2.symm, rfl, rfl⟩)
      · rename_i hc
        refine hk _ _ (.inr ⟨fun key w' l' t' val' del' ho hK hV => ?_, rfl, rfl⟩)
        obtain ⟨rfl, rfl, rfl, rfl, q1, rfl, q3⟩ := fit key w' l' t' val' del' ho hK hV
        exact hc ⟨by rw [q1]; exact ho, q3, hK.symm, by rw [q1]; exact hV.symm⟩
    have fin : ∀ d', d' = d → (∀ r ee, (r = (if okC (Str.of out) w l t (Str.of (V.drop 1)) d' = true ∧ e = Int.ofNat 0 ∧ 99 :: (mid out ++ stB w l t) = K ∧ flagB d' (V.drop 1) = V then ceAV (Str.of out) w l t (Str.of (V.drop 1)) d' else noCe) →
        ee = (if okC (Str.of out) w l t (Str.of (V.drop 1)) d' = true ∧ e = Int.ofNat 0 ∧ 99 :: (mid out ++ stB w l t) = K ∧ flagB d' (V.drop 1) = V then Int.ofNat 0 else Int.ofNat 5) → KA r ee)) := fun d' hd r ee h1 h2 => by rw [h1, h2]; exact body d' hd
    refine rec_intro (fun hd1 => ?_) (fun hd1 => ?_)
    all_goals
      conv => whnf
      refine ⟨out, w, l, t, V.drop 1, _, rfl, ?_⟩
      dsimp only
    · have fin := fin true hd1.symm
      cases hc : okC (Str.of out) w l t (Str.of (V.drop 1)) true with
      | false =>
        rw [putV, hc]
        repeat' ((conv => whnf); first | exact fin _ _ (by rw [if_neg (by rw [hc]; simp)]; rfl) (by rw [if_neg (by rw [hc]; simp)]) | refine rec_intro (fun _ => ?_) (fun _ => ?_))
      | true =>
        rw [putV, hc]
        conv => whnf
        refine rec_intro (fun h1 => ?_) (fun h1 => ?_)
        · have h1 : ¬ e = Int.ofNat 0 := eqI_false.1 (not_true.1 h1)
          conv => whnf
          exact fin _ _ (by rw [if_neg (fun h => h1 h.2.1)]; rfl) (by rw [if_neg (fun h => h1 h.2.1)])
        · have h1 : e = Int.ofNat 0 := eqI_true.1 (not_false'.1 h1)
          conv => whnf
          refine rec_intro (fun h2 => ?_) (fun h2 => ?_)
          · rw [beq_lit] at h2
            have h2 := of_decide_eq_false (not_true.1 h2)
            conv => whnf
            exact fin _ _ (by rw [if_neg (fun h => h2 h.2.2.1)]; rfl) (by rw [if_neg (fun h => h2 h.2.2.1)])
          · rw [beq_lit] at h2
            have h2 := of_decide_eq_true (not_false'.1 h2)
            conv => whnf
            refine rec_intro (fun h3 => ?_) (fun h3 => ?_)
            · rw [beq_lit] at h3
              have h3 := of_decide_eq_false (not_true.1 h3)
              conv => whnf
              exact fin _ _ (by rw [if_neg (fun h => h3 h.2.2.2)]; rfl) (by rw [if_neg (fun h => h3 h.2.2.2)])
            · rw [beq_lit] at h3
              have h3 := of_decide_eq_true (not_false'.1 h3)
              conv => whnf
              exact fin _ _ (by rw [if_pos ⟨hc, h1, h2, h3⟩]; rfl) (by rw [if_pos ⟨hc, h1, h2, h3⟩])
    · have fin := fin false hd1.symm
      cases hc : okC (Str.of out) w l t (Str.of (V.drop 1)) false with
      | false =>
        rw [putV, hc]
        repeat' ((conv => whnf); first | exact fin _ _ (by rw [if_neg (by rw [hc]; simp)]; rfl) (by rw [if_neg (by rw [hc]; simp)]) | refine rec_intro (fun _ => ?_) (fun _ => ?_))
      | true =>
        rw [putV, hc]
        conv => whnf
        refine rec_intro (fun h1 => ?_) (fun h1 => ?_)
        · have h1 : ¬ e = Int.ofNat 0 := eqI_false.1 (not_true.1 h1)
          conv => whnf
          exact fin _ _ (by rw [if_neg (fun h => h1 h.2.1)]; rfl) (by rw [if_neg (fun h => h1 h.2.1)])
        · have h1 : e = Int.ofNat 0 := eqI_true.1 (not_false'.1 h1)
          conv => whnf
          refine rec_intro (fun h2 => ?_) (fun h2 => ?_)
          · rw [beq_lit] at h2
            have h2 := of_decide_eq_false (not_true.1 h2)
            conv => whnf
            exact fin _ _ (by rw [if_neg (fun h => h2 h.2.2.1)]; rfl) (by rw [if_neg (fun h => h2 h.2.2.1)])
          · rw [beq_lit] at h2
            have h2 := of_decide_eq_true (not_false'.1 h2)
            conv => whnf
            refine rec_intro (fun h3 => ?_) (fun h3 => ?_)
            · rw [beq_lit] at h3
              have h3 := of_decide_eq_false (not_true.1 h3)
              conv => whnf
              exact fin _ _ (by rw [if_neg (fun h => h3 h.2.2.2)]; rfl) (by rw [if_neg (fun h => h3 h.2.2.2)])
            · rw [beq_lit] at h3
              have h3 := of_decide_eq_true (not_false'.1 h3)
              conv => whnf
              exact fin _ _ (by rw [if_pos ⟨hc, h1, h2, h3⟩]; rfl) (by rw [if_pos ⟨hc, h1, h2, h3⟩])
/-- two readings of one key and value are one -/
theorem CellP.one {K V : List UInt8} {r r' : AV} {e e' : Int} (h1 : CellP K V r e) (h2 : CellP K V r' e') : r = r' ∧ e = e' := by
  rcases h1 with ⟨key, w, l, t, val, del, ho, hK, hV, rfl, rfl⟩ | ⟨hn, rfl, rfl⟩ <;> rcases h2 with ⟨key', w', l', t', val', del', ho', hK', hV', rfl, rfl⟩ | ⟨hn', rfl, rfl⟩
  · obtain ⟨_, o2, o3⟩ := okC_parts ho
    obtain ⟨_, o2', o3'⟩ := okC_parts ho'
    rw [hK] at hK'; injection hK' with _ hK'
    obtain ⟨rfl, hs⟩ := mid_pre hK'
    obtain ⟨rfl, rfl, rfl⟩ := stB_inj o2 o2' hs
    rw [hV] at hV'
    obtain ⟨rfl, rfl⟩ := flagB_inj o3 o3' hV'
    exact ⟨rfl, rfl⟩
  · exact (hn' _ _ _ _ _ _ ho hK hV).elim
  · exact (hn _ _ _ _ _ _ ho' hK' hV').elim
  · exact ⟨rfl, rfl⟩
end
end Go.Proofs.Ytlbigopkplckaaa
