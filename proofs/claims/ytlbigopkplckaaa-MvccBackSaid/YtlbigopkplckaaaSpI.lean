/- The functions of the layer of versions, each told by what it answers: records that are kept. No condition. -/
import Derived.Test.YtlbigopkplckaaaSpH
namespace Go.Proofs.Ytlbigopkplckaaa
open Go Go.Am
set_option linter.all false
set_option maxRecDepth 100000
theorem push_out (b : Blk) (h : H) (k : Nat → H → Prop) (hk : ∀ h', Low h.next h h' → h'.get h.next = b → h'.next = h.next + 1 → k h.next h') : pushK b h k := by
  rw [pushK_is]
  exact hk _ (Low.push _ _ _ (Nat.le_refl _)) (by rw [pushed_get, if_pos rfl]) (pushed_next _ _)
theorem KV.full {h0 : H} {v : AV} {ks : List (List UInt8)} (q : KV h0 v ks) : h0.base = h0.next := by
  rcases q with ⟨rfl, rfl, rfl⟩ | ⟨tt, c, ex, rfl, rfl⟩ <;> rfl
theorem KV.sub {h0 : H} {v : AV} {ks : List (List UInt8)} (q : KV h0 v ks) : Sub h0 h0 := ⟨q.full, by rw [q.full]; exact Nat.le_refl _, fun _ _ => rfl⟩
theorem KV.at {h0 h : H} {v : AV} {ks : List (List UInt8)} (q : KV h0 v ks) (s : Sub h0 h) (hn : h0.next ≤ h.next) : KeysAt h v ks := by
  rcases q with ⟨rfl, rfl, rfl⟩ | ⟨tt, c, ex, rfl, rfl⟩
  · exact .inl ⟨rfl, rfl⟩
  · exact .inr ⟨0, c, ex, true, tt, rfl, (s.get 0 Nat.one_pos).symm, Nat.lt_of_lt_of_le Nat.one_pos hn⟩
def allU (ks : List (List UInt8)) : Prop := ∀ (i : Nat) (h : i < ks.length), usr (Str.of ks[i]) = true
open Classical in
noncomputable def allUB (ks : List (List UInt8)) : Bool := decide (allU ks)
theorem allU_t {ks : List (List UInt8)} (h : allU ks) : allUB ks = true := @decide_eq_true _ (Classical.propDecidable _) h
theorem allU_f {ks : List (List UInt8)} (h : ¬ allU ks) : allUB ks = false := @decide_eq_false _ (Classical.propDecidable _) h
theorem of_allU {ks : List (List UInt8)} (h : allUB ks = true) : allU ks := @of_decide_eq_true _ (Classical.propDecidable _) h
noncomputable def knI (n m st w l t : Int) (ks : List (List UInt8)) (beat pw pl pt : Int) : Int :=
  cond (eqI (chkR n m st w l t ks beat pw pl pt) (Int.ofNat 0)) (bad (allUB ks)) (chkR n m st w l t ks beat pw pl pt)
noncomputable def pChkR : AV → H → (Int → H → Prop) → Prop := fun a h k => ∃ n m st w l t v beat pw pl pt h0 ks, a = recAV n m st w l t v beat pw pl pt ∧ KV h0 v ks ∧ Sub h0 h ∧ k (chkR n m st w l t ks beat pw pl pt) h
noncomputable def pKn : AV → H → (Int → H → Prop) → Prop := fun a h k => ∃ n m st w l t v beat pw pl pt h0 ks, a = recAV n m st w l t v beat pw pl pt ∧ KV h0 v ks ∧ Sub h0 h ∧ k (knI n m st w l t ks beat pw pl pt) h
section
variable {K : Int → Prop}
theorem chk24 {n m st w l t : Int} {ks : List (List UInt8)} {beat pw pl pt : Int} (h : eqI (chkR n m st w l t ks beat pw pl pt) (Int.ofNat 0) = true) : ks.length ≤ 24 ∧ okR n m st w l t ks beat pw pl pt = true := by
  unfold chkR at h
  cases h1 : ltI (Int.ofNat 24) (Int.ofNat ks.length) with
  | true => rw [h1] at h; cases h
  | false =>
    rw [h1] at h
    refine ⟨ge_of_ltI h1, ?_⟩
    have h : eqI (bad (okR n m st w l t ks beat pw pl pt)) (Int.ofNat 0) = true := h
    rw [eqI_bad] at h; exact h
theorem t48 {h0 : H} {v : AV} {ks : List (List UInt8)} (q : KV h0 v ks) {n m st w l t beat pw pl pt : Int} (hk : ∀ r, r = knI n m st w l t ks beat pw pl pt → K r) : s48G J0 pUsr pChkR (recAV n m st w l t v beat pw pl pt) h0 fun r _ => K r := by
  unfold s48G
  show Go.Am.asAgg (.agg _) _
  rw [asAgg_agg]
  refine push_out _ _ _ fun h1 lo g n1 => ?_
  have sb := q.sub.low lo (Nat.le_refl _)
  have ka := q.at sb lo.next
  rw [ldN_at g (l := [.int .i32 n, .int .i32 m, .int .u8 st, .int .i64 w, .int .i32 l, .int .i32 t, v, .int .i64 beat, .int .i64 pw, .int .i32 pl, .int .i32 pt]) rfl]
  refine ⟨n, m, st, w, l, t, v, beat, pw, pl, pt, h0, ks, rfl, q, sb, ?_⟩
  dsimp only
  rw [fB_eq]
  cases hc : eqI (chkR n m st w l t ks beat pw pl pt) (Int.ofNat 0) with
  | false =>
    rw [Bool.not_false, br_t]
    exact hk _ (by rw [knI, hc]; rfl)
  | true =>
    rw [Bool.not_true, br_f, ldV_at g (v := v) rfl, ka.len]
    have h24 := (chk24 hc).1
    refine lp_rule (fun c x d h' => ∃ i, x = (v, .int .i64 (Int.ofNat ks.length), .int .i64 (Int.ofNat i), ()) ∧ d = [] ∧ h' = h1 ∧ i ≤ ks.length ∧ c = ks.length - i ∧ ∀ (i' : Nat) (hi' : i' < ks.length), i' < i → usr (Str.of ks[i']) = true) ?_ (n := ks.length) (by unfold fuel; omega) ⟨0, rfl, rfl, rfl, Nat.zero_le _, rfl, fun i' _ h => absurd h (Nat.not_lt_zero _)⟩
    rintro c self x d h' ⟨i, rfl, rfl, rfl, hi, rfl, hp⟩ hs
    by_cases h2 : i < ks.length
    · obtain ⟨p, p1, p2⟩ := ka.at h2
      simp only [asI_int, fB_eq, fI_eq, lt_ltI h2, br_t, p1, p2, pUsr]
      cases h3 : usr (Str.of ks[i]) with
      | false =>
        rw [Bool.not_false, br_t]
        refine hk _ ?_
        rw [knI, hc, allU_f (fun ha => by rw [ha i h2] at h3; cases h3)]; rfl
      | true =>
        rw [Bool.not_true, br_f, add_one i (by omega)]
        refine hs _ _ _ _ (by omega) ⟨i + 1, rfl, rfl, rfl, h2, rfl, fun i' hi' hlt => ?_⟩
        by_cases h4 : i' < i
        · exact hp i' hi' h4
        · obtain rfl : i' = i := by omega
          exact h3
    · simp only [asI_int, fB_eq, ge_ltI (a := i) (b := ks.length) (by omega), br_f]
      refine hk _ ?_
      rw [knI, hc, allU_t (fun i' hi' => hp i' hi' (by omega))]; rfl
theorem t53 {h0 : H} {v : AV} {ks : List (List UInt8)} (q : KV h0 v ks) {n m st w l t beat pw pl pt : Int} (hk : ∀ r, r = knI n m st w l t ks beat pw pl pt → K r) : s53G J0 pUsr pChkR (recAV n m st w l t v beat pw pl pt) h0 fun r _ => K r := by
  unfold s53G
  show Go.Am.asAgg (.agg _) _
  rw [asAgg_agg]
  refine push_out _ _ _ fun h1 lo g n1 => ?_
  have sb := q.sub.low lo (Nat.le_refl _)
  have ka := q.at sb lo.next
  rw [ldN_at g (l := [.int .i32 n, .int .i32 m, .int .u8 st, .int .i64 w, .int .i32 l, .int .i32 t, v, .int .i64 beat, .int .i64 pw, .int .i32 pl, .int .i32 pt]) rfl]
  refine ⟨n, m, st, w, l, t, v, beat, pw, pl, pt, h0, ks, rfl, q, sb, ?_⟩
  dsimp only
  rw [fB_eq]
  cases hc : eqI (chkR n m st w l t ks beat pw pl pt) (Int.ofNat 0) with
  | false =>
    rw [Bool.not_false, br_t]
    exact hk _ (by rw [knI, hc]; rfl)
  | true =>
    rw [Bool.not_true, br_f]
    have h24 := (chk24 hc).1
    refine lp_rule (fun c x d h' => ∃ i, x = (.ptr h0.next 0, .int .i64 (Int.ofNat i), ()) ∧ d = [] ∧ h' = h1 ∧ i ≤ ks.length ∧ c = ks.length - i ∧ ∀ (i' : Nat) (hi' : i' < ks.length), i' < i → usr (Str.of ks[i']) = true) ?_ (n := ks.length) (by unfold fuel; omega) ⟨0, rfl, rfl, rfl, Nat.zero_le _, rfl, fun i' _ h => absurd h (Nat.not_lt_zero _)⟩
    rintro c self x d h' ⟨i, rfl, rfl, rfl, hi, rfl, hp⟩ hs
    have gl : ∀ k : AV → Prop, ldV (.ptr h0.next (Nat.add 0 6)) h' k = k v := fun k => ldV_at g (v := v) rfl k
    by_cases h2 : i < ks.length
    · obtain ⟨p, p1, p2⟩ := ka.at h2
      simp only [asI_int, fB_eq, fI_eq, faK_ptr, gl, ka.len, lt_ltI h2, br_t, p1, p2, pUsr]
      cases h3 : usr (Str.of ks[i]) with
      | false =>
        rw [Bool.not_false, br_t]
        refine hk _ ?_
        rw [knI, hc, allU_f (fun ha => by rw [ha i h2] at h3; cases h3)]; rfl
      | true =>
        rw [Bool.not_true, br_f, add_one i (by omega)]
        refine hs _ _ _ _ (by omega) ⟨i + 1, rfl, rfl, rfl, h2, rfl, fun i' hi' hlt => ?_⟩
        by_cases h4 : i' < i
        · exact hp i' hi' h4
        · obtain rfl : i' = i := by omega
          exact h3
    · simp only [asI_int, fB_eq, faK_ptr, gl, ka.len, ge_ltI (a := i) (b := ks.length) (by omega), br_f]
      refine hk _ ?_
      rw [knI, hc, allU_t (fun i' hi' => hp i' hi' (by omega))]; rfl
end
end Go.Proofs.Ytlbigopkplckaaa
