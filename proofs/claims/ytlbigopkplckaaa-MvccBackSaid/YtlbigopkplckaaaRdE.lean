/- Cells are read back, in the program's words and in the document's. No condition. -/
import Derived.Test.YtlbigopkplckaaaRdD
namespace Go.Proofs.Ytlbigopkplckaaa
open Go Go.Am
set_option linter.all false
set_option maxRecDepth 100000
def kvAV (k v : List UInt8) : AV := .agg [.str (Str.of k), .str (Str.of v)]
def noCe : AV := ceAV ⟨0, 0⟩ 0 0 0 ⟨0, 0⟩ false
/-- what a key and a value are read as, as a cell -/
def CellP (K V : List UInt8) (r : AV) (e : Int) : Prop :=
  (∃ key w l t val del, okC (Str.of key) w l t (Str.of val) del = true ∧ K = 99 :: (mid key ++ stB w l t) ∧ V = flagB del val ∧ r = ceAV (Str.of key) w l t (Str.of val) del ∧ e = Int.ofNat 0) ∨
  ((∀ key w l t val del, okC (Str.of key) w l t (Str.of val) del = true → K = 99 :: (mid key ++ stB w l t) → V = flagB del val → False) ∧ r = noCe ∧ e = Int.ofNat 5)
theorem okC_parts {key val : List UInt8} {w l t : Int} {del : Bool} (h : okC (Str.of key) w l t (Str.of val) del = true) : usr (Str.of key) = true ∧ okS w l t = true ∧ (del = true → val = []) := by
  simp only [okC, Bool.and_eq_true] at h
  exact ⟨h.1, h.2.2, (wor_iff h.2.1).2⟩
section
variable {KA : AV → Int → Prop}
theorem t10 {K V : List UInt8} (hlK : K.length ≤ 140737488351232) (hk : ∀ r e, CellP K V r e → KA r e) : s10G J0 pPut pOf pStR pFlR (kvAV K V) H0 fun r e _ => KA r e := by
  conv => whnf
  refine ⟨2, 63, 99, K, false, rfl, rfl, hlK, ⟨Nat.zero_le _, rfl⟩, fun out r1 b1 hOf _ => ?_⟩
  conv => whnf
  refine ⟨2, 63, r1, b1, rfl, ⟨Nat.zero_le _, rfl⟩, fun w l t r2 b2 hSt _ => ?_⟩
  conv => whnf
  refine ⟨3, 63, V, false, rfl, ⟨Nat.zero_le _, rfl⟩, fun d val r3 b3 hFl => ?_⟩
  have X : ∀ key w' l' t' val' del', okC (Str.of key) w' l' t' (Str.of val') del' = true → K = 99 :: (mid key ++ stB w' l' t') → V = flagB del' val' → out = key ∧ w = w' ∧ l = l' ∧ t = t' ∧ val = val' ∧ d = del' ∧ b2 = false ∧ b3 = false := by
    intro key w' l' t' val' del' ho hK hV
    obtain ⟨o1, o2, o3⟩ := okC_parts ho
    obtain ⟨e1, e2, e3⟩ := hOf key _ rfl hK
    obtain ⟨e4, e5, e6, _, e7⟩ := hSt w' l' t' [] e3 o2 (by rw [e2]; simp)
    obtain ⟨e8, e9, e10⟩ := hFl del' val' rfl o3 hV
    exact ⟨e1, e4, e5, e6, e9, e8, e7, e10⟩
  conv => whnf
  refine ⟨out, w, l, t, val, d, rfl, ?_⟩
  dsimp only
  cases hc : okC (Str.of out) w l t (Str.of val) d with
  | false =>
    rw [putV, hc]
    conv => whnf
    refine hk _ _ (.inr ⟨fun key w' l' t' val' del' ho hK hV => ?_, rfl, rfl⟩)
    obtain ⟨rfl, rfl, rfl, rfl, rfl, rfl, _, _⟩ := X key w' l' t' val' del' ho hK hV
    rw [ho] at hc; cases hc
  | true =>
    rw [putV, hc]
    have bad1 : (b2 = true ∨ b3 = true) → ∀ e, e = Int.ofNat 5 → KA noCe e := fun hb e he => by
      subst he
      refine hk _ _ (.inr ⟨fun key w' l' t' val' del' ho hK hV => ?_, rfl, rfl⟩)
      obtain ⟨_, _, _, _, _, _, q1, q2⟩ := X key w' l' t' val' del' ho hK hV
      rw [q1, q2] at hb; simp at hb
    cases b2 with
    | true =>
      conv => whnf
      exact bad1 (.inl rfl) _ rfl
    | false =>
      cases b3 with
      | true =>
        conv => whnf
        exact bad1 (.inr rfl) _ rfl
      | false =>
        conv => whnf
        refine rec_intro (fun h1 => ?_) (fun h1 => ?_)
        · conv => whnf
          refine hk _ _ (.inr ⟨fun key w' l' t' val' del' ho hK hV => ?_, rfl, rfl⟩)
          obtain ⟨rfl, rfl, rfl, rfl, rfl, rfl, _, _⟩ := X key w' l' t' val' del' ho hK hV
          rw [← hK, beq_self] at h1; cases h1
        · rw [beq_lit] at h1
          have h1 : 99 :: (mid out ++ stB w l t) = K := of_decide_eq_true (not_false'.1 h1)
          conv => whnf
          refine rec_intro (fun h2 => ?_) (fun h2 => ?_)
          · conv => whnf
            refine hk _ _ (.inr ⟨fun key w' l' t' val' del' ho hK hV => ?_, rfl, rfl⟩)
            obtain ⟨rfl, rfl, rfl, rfl, rfl, rfl, _, _⟩ := X key w' l' t' val' del' ho hK hV
            rw [← hV, beq_self] at h2; cases h2
          · rw [beq_lit] at h2
            have h2 : flagB d val = V := of_decide_eq_true (not_false'.1 h2)
            conv => whnf
            exact hk _ _ (.inl ⟨out, w, l, t, val, d, hc, h1.symm, h2.symm, rfl, rfl⟩)
/-! ## in the document's words -/
def UmP (s out : List UInt8) (n : Int) (ok : Bool) : Prop := (∀ key tail, s = mid key ++ tail → out = key ∧ n = Int.ofNat (mid key).length ∧ ok = true) ∧ (ok = true → ∃ m : Nat, n = Int.ofNat m ∧ m ≤ s.length)
variable {KU : Str → Int → Bool → Prop}
theorem drop_cons {s r : List UInt8} {i : Nat} (h : i < s.length) : s.drop i = s[i] :: s.drop (i + 1) := by rw [List.drop_eq_getElem_cons h]
theorem t55 {s : List UInt8} (hl : s.length ≤ 140737488351232) (hk : ∀ out n ok, UmP s out n ok → KU (Str.of out) n ok) : s55G J0 (Str.of s) H0 fun a b c _ => KU a b c := by
  unfold s55G
  refine lp_rule (fun n v d h => ∃ i row acc, v = (.str (Str.of s), row, .int .i64 (Int.ofNat i), ()) ∧ d = [] ∧ i ≤ s.length ∧ n = s.length - i ∧ Row true 5 0 h row acc ∧ h.base = 0 ∧ acc.length ≤ i ∧ ∀ key tail, s = mid key ++ tail → ∃ k2, key = acc ++ k2 ∧ s.drop i = mid k2 ++ tail ∧ i + (mid k2).length = (mid key).length) ?_
    (n := s.length) (by unfold fuel; omega) ⟨0, .nils, [], rfl, rfl, Nat.zero_le _, rfl, Row.nil _ _ _ _, rfl, Nat.le_refl _, fun key tail h => ⟨key, rfl, h, by simp⟩⟩
  rintro n self v d h ⟨i, row, acc, rfl, rfl, hi, rfl, hr, hb, hal, hfit⟩ hs
  dsimp only
  have no : (∀ key tail, s = mid key ++ tail → False) → KU ⟨0, 0⟩ (Int.ofNat 0) false := fun hn => hk [] _ _ ⟨fun key tail h => (hn key tail h).elim, fun h => by cases h⟩
  rw [asS_str, asI_int, fB_eq]
  by_cases hc : i < s.length
  · have hd := drop_cons (r := []) hc
    rw [lt_ltI (b := (Str.of s).len) hc, br_t]
    refine jd_intro (fun v' d' h' => ∃ i' row' acc', v' = (.str (Str.of s), row', .int .i64 (Int.ofNat i'), ()) ∧ d' = [] ∧ i ≤ i' ∧ i' + 1 ≤ s.length ∧ Row true 5 0 h' row' acc' ∧ h'.base = 0 ∧ acc'.length ≤ i' + 1 ∧ ∀ key tail, s = mid key ++ tail → ∃ k2, key = acc' ++ k2 ∧ s.drop (i' + 1) = mid k2 ++ tail ∧ i' + 1 + (mid k2).length = (mid key).length) (fun j hj => ?_) ?_
    · rw [ixs_of hc, fB_eq, eqI_b0]
      by_cases h0 : s[i] = 0
      · rw [decide_eq_true h0, Bool.not_true, br_f, asI_int, fI_eq, asS_str, add_one i (by omega), fB_eq]
        by_cases hc1 : i + 1 < s.length
        · have hd1 := drop_cons (r := []) hc1
          rw [lt_ltI (b := (Str.of s).len) hc1, Bool.not_true, br_f, asI_int, fI_eq, add_one i (by omega), ixs_of hc1, fB_eq]
          have e1 : eqI (bI s[i + 1]) (Int.ofNat 1) = decide (s[i + 1] = 1) := by
            by_cases h : s[i + 1] = 1
            · rw [h]; rfl
            · rw [decide_eq_false h, eqI_false]
              intro h2
              have h2 : Int.ofNat s[i + 1].toNat = Int.ofNat 1 := h2
              injection h2 with h2
              exact h (UInt8.toNat_inj.1 h2)
          rw [e1]
          by_cases h1 : s[i + 1] = 1
          · rw [decide_eq_true h1, br_t, Row.str hr, asI_int, fI_eq]
            have e2 : wrapF .i64 (Int.add (Int.ofNat i) (Int.ofNat 2)) = Int.ofNat (i + 2) := wrapF_nat (kk := .i64) (m := i + 2) (by show i + 2 < 9223372036854775808; omega)
            rw [e2]
            refine hk acc _ _ ⟨fun key tail h => ?_, fun _ => ⟨i + 2, rfl, by omega⟩⟩
            obtain ⟨k2, q1, q2, q3⟩ := hfit key tail h
            rw [hd, hd1, h0, h1] at q2
            obtain ⟨rfl, q4⟩ := midI3 q2
            refine ⟨by rw [q1]; simp, ?_, rfl⟩
            rw [← q3]; rfl
          · rw [decide_eq_false h1, br_f, asI_int, fI_eq, add_one i (by omega), ixs_of hc1, fB_eq]
            have e3 : eqI (bI s[i + 1]) (Int.ofNat 255) = decide (s[i + 1] = 255) := by
              by_cases h : s[i + 1] = 255
              · rw [h]; rfl
              · rw [decide_eq_false h, eqI_false]
                intro h2
                have h2 : Int.ofNat s[i + 1].toNat = Int.ofNat 255 := h2
                injection h2 with h2
                exact h (UInt8.toNat_inj.1 h2)
            rw [e3]
            by_cases h2 : s[i + 1] = 255
            · rw [decide_eq_true h2, Bool.not_true, br_f]
              refine ap_lit (m := [0]) hr (by omega) (Nat.zero_le _) (by simp only [List.length_cons, List.length_nil, mostRoom]; omega) fun v3 h3 r3 l3 => ?_
              rw [asI_int, fI_eq, add_one i (by omega)]
              refine hj _ _ _ ⟨i + 1, v3, acc ++ [0], rfl, rfl, by omega, by omega, r3, by rw [l3.base]; exact hb, by simp; omega, fun key tail h => ?_⟩
              obtain ⟨k2, q1, q2, q3⟩ := hfit key tail h
              rw [hd, hd1, h0, h2] at q2
              obtain ⟨k3, rfl, q4⟩ := midI2 q2
              refine ⟨k3, by rw [q1]; simp, q4, ?_⟩
              rw [mid_cons, esc_0] at q3; simp at q3; omega
            · rw [decide_eq_false h2, Bool.not_false, br_t]
              refine no fun key tail h => ?_
              obtain ⟨k2, q1, q2, q3⟩ := hfit key tail h
              rw [hd, hd1, h0] at q2
              exact midI4 h2 h1 q2
        · rw [ge_ltI (b := (Str.of s).len) (by show s.length ≤ i + 1; omega), Bool.not_false, br_t]
          refine no fun key tail h => ?_
          obtain ⟨k2, q1, q2, q3⟩ := hfit key tail h
          rw [hd, List.drop_of_length_le (by omega)] at q2
          exact midI6 q2
      · rw [decide_eq_false h0, Bool.not_false, br_t, ixs_of hc]
        refine ap_lit (m := [s[i]]) hr (by omega) (Nat.zero_le _) (by simp only [List.length_cons, List.length_nil, mostRoom]; omega) fun v3 h3 r3 l3 => ?_
        refine hj _ _ _ ⟨i, v3, acc ++ [s[i]], rfl, rfl, Nat.le_refl _, hc, r3, by rw [l3.base]; exact hb, by simp; omega, fun key tail h => ?_⟩
        obtain ⟨k2, q1, q2, q3⟩ := hfit key tail h
        rw [hd] at q2
        obtain ⟨k3, rfl, q4⟩ := midI1 h0 q2
        refine ⟨k3, by rw [q1]; simp, q4, ?_⟩
        rw [mid_cons, esc_n h0] at q3; simp at q3; omega
    · rintro v' d' h' ⟨i', row', acc', rfl, rfl, hi', hi2, hr', hb', hal', hfit'⟩
      dsimp only
      rw [asI_int, fI_eq, add_one i' (by omega)]
      exact hs _ _ _ _ (by omega) ⟨i' + 1, row', acc', rfl, rfl, hi2, rfl, hr', hb', hal', hfit'⟩
  · rw [ge_ltI (b := (Str.of s).len) (by show s.length ≤ i; omega), br_f]
    refine no fun key tail h => ?_
    obtain ⟨k2, q1, q2, q3⟩ := hfit key tail h
    rw [List.drop_of_length_le (by omega)] at q2
    exact midI5 q2
noncomputable def pUm : Str → H → (Str → Int → Bool → H → Prop) → Prop := fun s h k => ∃ l : List UInt8, s = Str.of l ∧ l.length ≤ 140737488351232 ∧ ∀ out n ok, UmP l out n ok → k (Str.of out) n ok h
end
end Go.Proofs.Ytlbigopkplckaaa
