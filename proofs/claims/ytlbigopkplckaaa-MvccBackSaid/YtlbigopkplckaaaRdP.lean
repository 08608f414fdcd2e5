/- Records that are compared. No condition. -/
import Derived.Test.YtlbigopkplckaaaRdO
import Derived.Test.YtlbigopkplckaaaAmL7
namespace Go.Proofs.Ytlbigopkplckaaa
open Go Go.Am
set_option linter.all false
set_option maxRecDepth 100000
theorem eqI_refl (a : Int) : eqI a a = true := eqI_true.2 rfl
theorem eqTx (a b : Int) : aBin ty .eql 39 false (txAV a b) (txAV a b) = some (.bool true) := by
  have : aBin ty .eql 39 false (txAV a b) (txAV a b) = Option.map AV.bool (match some (eqI a a) with | some true => (match some (eqI b b) with | some true => some true | some false => some false | none => none) | some false => some false | none => none) := rfl
  rw [this, eqI_refl, eqI_refl]; rfl
theorem eqSt1 (a b c : Int) : aBin ty .eql 28 false (stAV a b c) (stAV a b c) = some (.bool true) := by rw [eqSt, eqI_refl, eqI_refl, eqI_refl]; rfl
section
variable {KB : Bool → H → Prop}
theorem t65 {h : H} {a b : AV} {ks : List (List UInt8)} (q1 : KeysAt h a ks) (q2 : KeysAt h b ks) (hl : ks.length ≤ 100000) (hk : KB true h) : s65G J0 a b h KB := by
  unfold s65G
  rw [q1.len, q2.len, fB_eq, eqI_refl, Bool.not_true, br_f]
  refine lp_rule (fun n w d h' => ∃ i, w = (a, b, .int .i64 (Int.ofNat i), ()) ∧ d = [] ∧ h' = h ∧ i ≤ ks.length ∧ n = ks.length - i) ?_ (n := ks.length) (by unfold fuel; omega) ⟨0, rfl, rfl, rfl, Nat.zero_le _, rfl⟩
  rintro n self w d h' ⟨i, rfl, rfl, rfl, hi, rfl⟩ hs
  dsimp only
  by_cases hc : i < ks.length
  · obtain ⟨p, p1, p2⟩ := q1.at hc
    obtain ⟨p', p3, p4⟩ := q2.at hc
    simp only [asI_int, fB_eq, fI_eq, q1.len, lt_ltI hc, br_t, p1, p2, p3, p4, beq_self, Bool.not_true, br_f]
    rw [add_one i (by omega)]
    exact hs _ _ _ _ (by omega) ⟨i + 1, rfl, rfl, rfl, hc, rfl⟩
  · simp only [asI_int, fB_eq, fI_eq, q1.len, ge_ltI (a := i) (b := ks.length) (by omega), br_f]
    exact hk
noncomputable def pSames : AV → AV → H → (Bool → H → Prop) → Prop := fun a b h k => ∃ ks, KeysAt h a ks ∧ KeysAt h b ks ∧ ks.length ≤ 100000 ∧ k true h
theorem obK_is {o : Option AV} {b : Bool} (h : o = some (.bool b)) (k : Bool → Prop) : obK o k = k b := by unfold obK; rw [h]; rfl
theorem t27 {h : H} {v1 v2 : AV} {ks : List (List UInt8)} (q1 : KeysAt h v1 ks) (q2 : KeysAt h v2 ks) (hl : ks.length ≤ 100000) {n m st w l t beat pw pl pt : Int} (hk : ∀ h', KB true h') :
    s27G J0 pSames (recAV n m st w l t v1 beat pw pl pt) (recAV n m st w l t v2 beat pw pl pt) h KB := by
  unfold s27G
  show Go.Am.asAgg (.agg _) _
  rw [asAgg_agg]
  refine push_out _ _ _ fun h1 lo1 g1 n1 => ?_
  rw [show recAV n m st w l t v2 beat pw pl pt = .agg (recL n m st w l t v2 beat pw pl pt) from rfl, asAgg_agg]
  refine push_out _ _ _ fun h2 lo2 g2 n2 => ?_
  have g1 := (lo2.get h.next (by omega)).trans g1
  have q1 := (q1.low lo1 (Nat.le_refl _)).low lo2 (by omega)
  have q2 := (q2.low lo1 (Nat.le_refl _)).low lo2 (by omega)
  have A1 : ∀ k, ldN 2 (.ptr h.next 0) h2 k = k [.int .i32 n, .int .i32 m] := fun k => ldN_at g1 rfl k
  have A2 : ∀ k, ldN 2 (.ptr h1.next 0) h2 k = k [.int .i32 n, .int .i32 m] := fun k => ldN_at g2 rfl k
  have B1 : ∀ k, ldI .u8 (.ptr h.next 2) h2 k = k st := fun k => ldI_at g1 rfl k
  have B2 : ∀ k, ldI .u8 (.ptr h1.next 2) h2 k = k st := fun k => ldI_at g2 rfl k
  have C1 : ∀ k, ldN 3 (.ptr h.next 3) h2 k = k [.int .i64 w, .int .i32 l, .int .i32 t] := fun k => ldN_at g1 rfl k
  have C2 : ∀ k, ldN 3 (.ptr h1.next 3) h2 k = k [.int .i64 w, .int .i32 l, .int .i32 t] := fun k => ldN_at g2 rfl k
  have D1 : ∀ k, ldV (.ptr h.next 6) h2 k = k v1 := fun k => ldV_at g1 rfl k
  have D2 : ∀ k, ldV (.ptr h1.next 6) h2 k = k v2 := fun k => ldV_at g2 rfl k
  have E1 : ∀ k, ldI .i64 (.ptr h.next 7) h2 k = k beat := fun k => ldI_at g1 rfl k
  have E2 : ∀ k, ldI .i64 (.ptr h1.next 7) h2 k = k beat := fun k => ldI_at g2 rfl k
  have F1 : ∀ k, ldN 3 (.ptr h.next 8) h2 k = k [.int .i64 pw, .int .i32 pl, .int .i32 pt] := fun k => ldN_at g1 rfl k
  have F2 : ∀ k, ldN 3 (.ptr h1.next 8) h2 k = k [.int .i64 pw, .int .i32 pl, .int .i32 pt] := fun k => ldN_at g2 rfl k
  have G1 := obK_is (eqTx n m)
  unfold txAV at G1
  have G2 := obK_is (eqSt1 w l t)
  have G3 := obK_is (eqSt1 pw pl pt)
  unfold stAV at G2 G3
  have S1 : ∀ k : Bool → H → Prop, pSames v1 v2 h2 k = (∃ ks, KeysAt h2 v1 ks ∧ KeysAt h2 v2 ks ∧ ks.length ≤ 100000 ∧ k true h2) := fun k => rfl
  simp only [↓jn_is, ↓br_t, ↓br_f, ↓pickB_t, ↓pickB_f, ↓asB_bool, ↓asI_int, ↓asS_str, ↓okNil_ptr, ↓faK_ptr, ↓A1, ↓A2, ↓B1, ↓B2, ↓C1, ↓C2, ↓D1, ↓D2, ↓E1, ↓E2, ↓F1, ↓F2, ↓G1, ↓G2, ↓G3, ↓fB_eq, eqI_refl]
  refine ⟨ks, q1, q2, hl, ?_⟩
  simp only [↓jn_is, ↓br_t, ↓br_f, ↓pickB_t, ↓pickB_f, ↓asB_bool, ↓asI_int, ↓asS_str, ↓okNil_ptr, ↓faK_ptr, ↓A1, ↓A2, ↓B1, ↓B2, ↓C1, ↓C2, ↓D1, ↓D2, ↓E1, ↓E2, ↓F1, ↓F2, ↓G1, ↓G2, ↓G3, ↓fB_eq, eqI_refl]
  exact hk _
end
end Go.Proofs.Ytlbigopkplckaaa
