/- The functions of the layer of versions, each told by what it answers: records and their keys. No condition. -/
import Derived.Test.YtlbigopkplckaaaSpF
namespace Go.Proofs.Ytlbigopkplckaaa
open Go Go.Am
set_option linter.all false
set_option maxRecDepth 100000
/-- a list of keys stands in a row of cells -/
def kcells (ks : List (List UInt8)) : List AV := ks.map fun k => .str (Str.of k)
def KeysAt (h : H) (v : AV) (ks : List (List UInt8)) : Prop := (v = .nils ∧ ks = []) ∨ ∃ id c ex m t, v = .slice id 0 ks.length c 1 ex ∧ h.get id = .cells m t (kcells ks) ∧ id < h.next
theorem KeysAt.low {h h' : H} {v : AV} {ks : List (List UInt8)} (q : KeysAt h v ks) {n : Nat} (l : Low n h h') (hn : h.next ≤ n) : KeysAt h' v ks := by
  rcases q with q | ⟨id, c, ex, m, t, q1, q2, q3⟩
  · exact .inl q
  · exact .inr ⟨id, c, ex, m, t, q1, by rw [l.get id (by omega)]; exact q2, by have := l.next; omega⟩
theorem kget {ks : List (List UInt8)} {i : Nat} (h : i < ks.length) : lgetO (kcells ks) i = some (.str (Str.of ks[i])) := by
  have h2 : i < (kcells ks).length := by simp [kcells]; exact h
  rw [lgetO_get h2]; simp [kcells]
theorem KeysAt.len {h : H} {v : AV} {ks : List (List UInt8)} (q : KeysAt h v ks) (k : Nat → Prop) : lenK v k = k ks.length := by
  rcases q with ⟨rfl, rfl⟩ | ⟨id, c, ex, m, t, rfl, q2, q3⟩ <;> rfl
theorem KeysAt.at {h : H} {v : AV} {ks : List (List UInt8)} (q : KeysAt h v ks) {i : Nat} (hi : i < ks.length) : ∃ p, (∀ (kk : IntKind) (k : AV → Prop), ixK 1 v (.int kk (Int.ofNat i)) k = k p) ∧ ∀ k : Str → Prop, ldS p h k = k (Str.of ks[i]) := by
  rcases q with ⟨rfl, rfl⟩ | ⟨id, c, ex, m, t, rfl, q2, q3⟩
  · simp at hi
  · exact ⟨.ptr id i, fun kk k => ixK1 hi k, fun k => ldS_at q2 (kget hi) k⟩
def risP (ks : List (List UInt8)) : Prop := ∀ (i : Nat) (h : i < ks.length), ks[i] ≠ [] ∧ ∀ (j : Nat) (e : i = j + 1), Str.lt (Str.of ks[j]) (Str.of ks[i]) = true
open Classical in
noncomputable def risB (ks : List (List UInt8)) : Bool := decide (risP ks)
theorem risB_t {ks : List (List UInt8)} (h : risP ks) : risB ks = true := @decide_eq_true _ (Classical.propDecidable _) h
theorem risB_f {ks : List (List UInt8)} (h : ¬ risP ks) : risB ks = false := @decide_eq_false _ (Classical.propDecidable _) h
theorem beq_nil (l : List UInt8) : Str.beq (Str.of l) ⟨0, 0⟩ = decide (l = []) := by
  have h : Str.beq (Str.of l) (Str.of []) = (l == []) := Str.beq_of l []
  have h2 : Str.beq (Str.of l) ⟨0, 0⟩ = (l == []) := h
  rw [h2]; cases l <;> rfl
section
variable {K : Int → Prop} {KB : Bool → H → Prop} {KA : AV → Int → Prop}
theorem lt_ltI {a b : Nat} (h : a < b) : ltI (Int.ofNat a) (Int.ofNat b) = true := ltI_true.2 (by show (a : Int) < (b : Int); omega)
theorem ge_ltI {a b : Nat} (h : b ≤ a) : ltI (Int.ofNat a) (Int.ofNat b) = false := ltI_false.2 (by show (b : Int) ≤ (a : Int); omega)
theorem sub_one (j : Nat) (h : j < 9223372036854775808) : wrapF .i64 (Int.sub (Int.ofNat (j + 1)) (Int.ofNat 1)) = Int.ofNat j := by
  rw [sub_nat (by omega)]; exact wrapF_nat (kk := .i64) (by show j + 1 - 1 < 9223372036854775808; omega)
theorem t82 {h : H} {v : AV} {ks : List (List UInt8)} (q : KeysAt h v ks) (hl : ks.length ≤ 100000) (hk : ∀ r, r = risB ks → KB r h) : s82G J0 v h KB := by
  unfold s82G
  rw [q.len]
  refine lp_rule (fun n w d h' => ∃ i, w = (v, v, .int .i64 (Int.ofNat ks.length), .int .i64 (Int.ofNat i), ()) ∧ d = [] ∧ h' = h ∧ i ≤ ks.length ∧ n = ks.length - i ∧ ∀ (i' : Nat) (hi' : i' < ks.length), i' < i → ks[i'] ≠ [] ∧ ∀ (j : Nat) (e : i' = j + 1), Str.lt (Str.of ks[j]) (Str.of ks[i']) = true) ?_ (n := ks.length) (by unfold fuel; omega) ⟨0, rfl, rfl, rfl, Nat.zero_le _, rfl, fun i' _ h => absurd h (Nat.not_lt_zero _)⟩
  rintro n self w d h' ⟨i, rfl, rfl, rfl, hi, rfl, hp⟩ hs
  by_cases hc : i < ks.length
  · have c1 := lt_ltI hc
    obtain ⟨p, p1, p2⟩ := q.at hc
    simp only [asI_int, fB_eq, fI_eq, c1, br_t, p1, p2, beq_nil]
    by_cases h1 : ks[i] = []
    · rw [decide_eq_true h1]
      simp only [↓jn_is, ↓br_t, ↓br_f, ↓pickB_t, ↓pickB_f, ↓asB_bool, ↓asBU_bool, ↓asI_int, ↓asS_str, ↓asBU_skip]
      refine hk _ ?_
      refine (risB_f ?_).symm
      intro hr; exact (hr i hc).1 h1
    · rw [decide_eq_false h1]
      cases i with
      | zero =>
        have c2 : ltI (Int.ofNat 0) (Int.ofNat 0) = false := ge_ltI (Nat.le_refl _)
        simp only [↓jn_is, ↓br_t, ↓br_f, ↓pickB_t, ↓pickB_f, ↓asB_bool, ↓asBU_bool, ↓asI_int, ↓asS_str, ↓asBU_skip, c2]
        rw [add_one 0 (by omega)]
        refine hs (ks.length - 1) _ _ _ (by omega) ⟨1, rfl, rfl, rfl, by omega, by omega, fun i' hi' hlt => ?_⟩
        obtain rfl : i' = 0 := by omega
        exact ⟨h1, fun j e => by omega⟩
      | succ j =>
        have c2 : ltI (Int.ofNat 0) (Int.ofNat (j + 1)) = true := lt_ltI (by omega)
        obtain ⟨p', p3, p4⟩ := q.at (i := j) (by omega)
        have c3 := sub_one j (by omega)
        simp only [↓jn_is, ↓br_t, ↓br_f, ↓pickB_t, ↓pickB_f, ↓asB_bool, ↓asBU_bool, ↓asI_int, ↓asS_str, ↓asBU_skip, c2, c3, p3, p4]
        cases h2 : Str.lt (Str.of ks[j]) (Str.of ks[j + 1])
        · simp only [Bool.not_false, ↓jn_is, ↓br_t, ↓br_f, ↓pickB_t, ↓pickB_f, ↓asB_bool, ↓asBU_bool, ↓asI_int, ↓asS_str, ↓asBU_skip]
          refine hk _ ?_
          refine (risB_f ?_).symm
          intro hr
          have := (hr (j + 1) hc).2 j rfl
          rw [h2] at this; cases this
        · simp only [Bool.not_true, ↓jn_is, ↓br_t, ↓br_f, ↓pickB_t, ↓pickB_f, ↓asB_bool, ↓asBU_bool, ↓asI_int, ↓asS_str, ↓asBU_skip]
          rw [add_one (j + 1) (by omega)]
          refine hs (ks.length - (j + 1 + 1)) _ _ _ (by omega) ⟨j + 1 + 1, rfl, rfl, rfl, by omega, rfl, fun i' hi' hlt => ?_⟩
          by_cases h3 : i' < j + 1
          · exact hp i' hi' h3
          · obtain rfl : i' = j + 1 := by omega
            exact ⟨h1, fun j' e => by obtain rfl : j = j' := by omega
                                      exact h2⟩
  · have c1 := ge_ltI (a := i) (b := ks.length) (by omega)
    simp only [asI_int, fB_eq, fI_eq, c1, br_f]
    refine hk _ ?_
    refine (risB_t ?_).symm
    exact fun i' hi' => hp i' hi' (by omega)
theorem t84 {h : H} {v : AV} {ks : List (List UInt8)} (q : KeysAt h v ks) (hl : ks.length ≤ 100000) (hk : ∀ r, r = (risB ks && ltI (Int.ofNat 0) (Int.ofNat ks.length)) → KB r h) : s84G J0 v h KB := by
  unfold s84G
  refine lp_rule (fun n w d h' => ∃ i, w = (v, .int .i64 (Int.ofNat i), ()) ∧ d = [] ∧ h' = h ∧ i ≤ ks.length ∧ n = ks.length - i ∧ ∀ (i' : Nat) (hi' : i' < ks.length), i' < i → ks[i'] ≠ [] ∧ ∀ (j : Nat) (e : i' = j + 1), Str.lt (Str.of ks[j]) (Str.of ks[i']) = true) ?_ (n := ks.length) (by unfold fuel; omega) ⟨0, rfl, rfl, rfl, Nat.zero_le _, rfl, fun i' _ h => absurd h (Nat.not_lt_zero _)⟩
  rintro n self w d h' ⟨i, rfl, rfl, rfl, hi, rfl, hp⟩ hs
  by_cases hc : i < ks.length
  · have c1 := lt_ltI hc
    obtain ⟨p, p1, p2⟩ := q.at hc
    simp only [asI_int, fB_eq, fI_eq, q.len, c1, br_t, p1, p2, beq_nil]
    by_cases h1 : ks[i] = []
    · rw [decide_eq_true h1]
      simp only [↓jn_is, ↓jb_is, ↓br_t, ↓br_f, ↓pickB_t, ↓pickB_f, ↓asB_bool, ↓asBU_bool, ↓asI_int, ↓asS_str, ↓asBU_skip]
      refine hk _ ?_
      have : risB ks = false := by
        refine risB_f ?_
        intro hr; exact (hr i hc).1 h1
      rw [this]; rfl
    · rw [decide_eq_false h1]
      cases i with
      | zero =>
        have c2 : ltI (Int.ofNat 0) (Int.ofNat 0) = false := ge_ltI (Nat.le_refl _)
        simp only [↓jn_is, ↓jb_is, ↓br_t, ↓br_f, ↓pickB_t, ↓pickB_f, ↓asB_bool, ↓asBU_bool, ↓asI_int, ↓asS_str, ↓asBU_skip, c2]
        rw [add_one 0 (by omega)]
        refine hs (ks.length - 1) _ _ _ (by omega) ⟨1, rfl, rfl, rfl, by omega, by omega, fun i' hi' hlt => ?_⟩
        obtain rfl : i' = 0 := by omega
        exact ⟨h1, fun j e => by omega⟩
      | succ j =>
        have c2 : ltI (Int.ofNat 0) (Int.ofNat (j + 1)) = true := lt_ltI (by omega)
        obtain ⟨p', p3, p4⟩ := q.at (i := j) (by omega)
        have c3 := sub_one j (by omega)
        simp only [↓jn_is, ↓jb_is, ↓br_t, ↓br_f, ↓pickB_t, ↓pickB_f, ↓asB_bool, ↓asBU_bool, ↓asI_int, ↓asS_str, ↓asBU_skip, c2, c3, p1, p2, p3, p4]
        cases h2 : Str.lt (Str.of ks[j]) (Str.of ks[j + 1])
        · simp only [Bool.not_false, ↓jn_is, ↓jb_is, ↓br_t, ↓br_f, ↓pickB_t, ↓pickB_f, ↓asB_bool, ↓asBU_bool, ↓asI_int, ↓asS_str, ↓asBU_skip]
          refine hk _ ?_
          have : risB ks = false := by
            refine risB_f ?_
            intro hr
            have := (hr (j + 1) hc).2 j rfl
            rw [h2] at this; cases this
          rw [this]; rfl
        · simp only [Bool.not_true, ↓jn_is, ↓jb_is, ↓br_t, ↓br_f, ↓pickB_t, ↓pickB_f, ↓asB_bool, ↓asBU_bool, ↓asI_int, ↓asS_str, ↓asBU_skip]
          rw [add_one (j + 1) (by omega)]
          refine hs (ks.length - (j + 1 + 1)) _ _ _ (by omega) ⟨j + 1 + 1, rfl, rfl, rfl, by omega, rfl, fun i' hi' hlt => ?_⟩
          by_cases h3 : i' < j + 1
          · exact hp i' hi' h3
          · obtain rfl : i' = j + 1 := by omega
            exact ⟨h1, fun j' e => by obtain rfl : j = j' := by omega
                                      exact h2⟩
  · have c1 := ge_ltI (a := i) (b := ks.length) (by omega)
    simp only [asI_int, fB_eq, fI_eq, q.len, c1, br_f]
    refine hk _ ?_
    have : risB ks = true := by
      refine risB_t ?_
      exact fun i' hi' => hp i' hi' (by omega)
    rw [this]; rfl
end
end Go.Proofs.Ytlbigopkplckaaa
