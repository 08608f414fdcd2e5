/- What vfs's inner functions do: slices.Clone, tree.done, held. No condition. -/
import Derived.Test.YtiejkbmobmgdkaaAmH17
import Derived.Test.YtiejkbmobmgdkaaVxC
namespace Go.Proofs.Ytiejkbmobmgdkaa
open Go Go.Am
set_option linter.all false
set_option maxRecDepth 100000
theorem vt : VT ty := ⟨by kernel_rfl, by kernel_rfl, by kernel_rfl, by kernel_rfl, by kernel_rfl⟩
/-- slices.Clone: a row of one's own -/
theorem p42 {h : H} {v : AV} {b : List UInt8} {k : AV → H → Prop} (s : SlB h v b) (hb : h.base ≤ h.next) (hl : b.length ≤ mostRoom) (hk : ∀ v' h', Row false 5 h.next h' v' b → Only noL h h' → k v' h') : s42 v h k := by
  show s42G J0 v h k
  unfold s42G
  refine s.nilB (fun e1 e2 => ?_) ?_
  · subst e1 e2
    exact hk _ _ (Row.nil _ _ _ _) (Only.refl _ _)
  · rw [br_f]
    rw [show asRow true 5 [] = some (.bytes 5 0 false (Str.of [])) from rfl, op'_some, pushK_is]
    refine apB_row (Row.push (g := false) (n := h.next) (l := []) false true (Nat.le_refl _)) hb (by rw [pushed_next]; omega) ?_ (by simpa using hl) fun v' h' r lo => ?_
    · refine fun f => SlB.src (s.only (L := noL) (Low.only ?_)) 5 f
      exact Low.push _ _ _ (Nat.le_refl _)
    · rw [List.nil_append] at r
      exact hk _ _ r (Low.only ((Low.push _ _ _ (Nat.le_refl _)).trans lo))
/-- tree.done -/
theorem p43 {h : H} {mf mn n : Nat} {t : Tre} {s : Stp} {v : AV} {k : H → Prop} (q : TreeAt h mf mn t) (hv : SlB h v s.bytes) (hbd : Bnd n t) (hl : n + s.bytes.length ≤ mostRoom)
    (hk : ∀ h', TreeAt h' mf mn (t.step s) → Only (Two mf mn) h h' → k h') : s43 (.agg [.map mf, .map mn]) (.agg (s.cells v)) h k := by
  show s43G J0 s42 _ _ h k
  unfold s43G
  rw [asAgg_agg]
  refine push_r fun h2' o2 n2 g2 => ?_
  rw [asAgg_agg]
  refine push_r fun h5 o5 n5 g5 => ?_
  have o25 : Only noL h h5 := o2.trans o5 fun _ _ c => c
  have q2 := q.only o2 id id
  have g25 : h5.get h.next = .cells false 57 [.map mf, .map mn] := o5.at g2 rfl id
  have q5 := q.only o25 id id
  have v5 := hv.only o25
  have fin : ∀ {h6 : H} {L : Nat → Prop}, TreeAt h6 mf mn (t.step s) → Only L h5 h6 → (∀ i, L i → Two mf mn i) → k h6 := fun q6 o6 hi => hk _ q6 (((o25.imp fun _ _ c => c.elim).trans o6 fun i _ c => hi i c))
  rw [ldI_at g5 rfl, fB_eq]
  refine br_intro (fun h0 => ?_) fun h0 => ?_
  · have h0 : s.kind = 0 := eqI_true.1 h0
    rw [ldV_at g25 rfl, ldI_at g5 rfl, ldV_at g25 rfl, ldI_at g5 rfl]
    obtain ⟨w, e1, hw⟩ := lookF vt q5 s.file
    rw [e1, op'_some, ldV_at g5 rfl]
    refine p42 hw q5.wf (by have := hbd.get s.file; omega) fun v' h15 r o15 => ?_
    have g5' := o15.at g5 rfl id
    have g25' := o15.at g25 rfl id
    have q15 := q5.only o15 id id
    refine ck_intro (reads_self (aLoad1_at g5') v5.self) (ck_intro (reads_self (aLoad1_at g5') (same_int _ _)) (ck_intro (reads_self (aLoad1_at g25') (same_map _)) ?_))
    refine apB_row r (by rw [o15.base]; exact q5.wf) o15.next (fun f => (v5.only o15).src 5 f) (by have := hbd.get s.file; omega) fun v'' h18 r' lo => ?_
    have o18 : Only noL h5 h18 := o15.low lo
    have g5'' := o18.at g5 rfl id
    have g25'' := o18.at g25 rfl id
    have q18 := q5.only o18 id id
    refine ck_intro (reads_self (aLoad1_at g5'') (same_int _ _)) (ck_intro (reads_self (aLoad1_at g25'') (same_map _)) ?_)
    obtain ⟨es, e2, a2⟩ := putF vt q18 s.file (SlB.ofRow r')
    rw [e2, op'_some]
    obtain ⟨es0, e3, _⟩ := q18.files
    refine put_r e3 rfl (by intros; intro c; cases c) q18.bf fun h6 o6 n6 g6 => ?_
    refine fin ?_ ((o18.imp fun _ _ c => c.elim).trans o6 fun i _ c => c) fun i c => .inl c
    unfold Tre.step
    rw [if_pos h0]
    exact q18.putF o6 g6 a2
  have k0 : s.kind ≠ 0 := eqI_false.1 h0
  rw [fB_eq]
  refine br_intro (fun h1 => ?_) fun h1 => ?_
  · have h1 : s.kind = 1 := eqI_true.1 h1
    rw [ldV_at g25 rfl, ldS_at g5 rfl, ldI_at g5 rfl, putN vt q5, op'_some]
    refine put_r q5.names rfl (by intros; intro c; cases c) q5.bn fun h6 o6 n6 g6 => ?_
    refine fin ?_ o6 fun i c => .inr c
    unfold Tre.step
    rw [if_neg k0, if_pos h1]
    exact q5.putN o6 g6
  have k1 : s.kind ≠ 1 := eqI_false.1 h1
  rw [fB_eq]
  refine br_intro (fun h2 => ?_) fun h2 => ?_
  · have h2 : s.kind = 2 := eqI_true.1 h2
    rw [ldS_at g5 rfl, ldS_at g5 rfl, fB_eq, beq_lit]
    refine br_intro (fun h3 => ?_) fun h3 => ?_
    · have h3 : s.name ≠ s.to := by rw [Am.not_true] at h3; simpa using h3
      rw [ldV_at g25 rfl, ldS_at g5 rfl, ldV_at g25 rfl, ldS_at g5 rfl, lookN vt q5, op'_some, asI_int, putN vt q5, op'_some]
      refine put_r q5.names rfl (by intros; intro c; cases c) q5.bn fun h6 o6 n6 g6 => ?_
      have q6 := q5.putN o6 g6
      have l1 := H.lt_of_live (h := h5) (id := h2'.next) (by rw [g5]; rfl)
      have g5' := o6.at g5 rfl fun e => by have := q2.ln; omega
      have g25' := o6.at g25 rfl fun e => by have := q.ln; omega
      rw [ldV_at g25' rfl, ldS_at g5' rfl, delNm vt q6]
      show putK _ _ _ _
      refine put_r q6.names rfl (by intros; intro c; cases c) q6.bn fun h7 o7 n7 g7 => ?_
      refine fin ?_ (o6.trans o7 fun _ _ c => c) fun i c => .inr c
      unfold Tre.step
      rw [if_neg k0, if_neg k1, if_pos h2, if_neg h3]
      exact q6.putN o7 g7
    · have h3 : s.name = s.to := by rw [not_false'] at h3; simpa using h3
      refine fin ?_ (Only.refl noL h5) fun i c => c.elim
      unfold Tre.step
      rw [if_neg k0, if_neg k1, if_pos h2, if_pos h3]
      exact q5
  have k2 : s.kind ≠ 2 := eqI_false.1 h2
  rw [fB_eq]
  refine br_intro (fun h3 => ?_) fun h3 => ?_
  · have h3 : s.kind = 3 := eqI_true.1 h3
    rw [ldV_at g25 rfl, ldS_at g5 rfl, delNm vt q5]
    show putK _ _ _ _
    refine put_r q5.names rfl (by intros; intro c; cases c) q5.bn fun h6 o6 n6 g6 => ?_
    refine fin ?_ o6 fun i c => .inr c
    unfold Tre.step
    rw [if_neg k0, if_neg k1, if_neg k2, if_pos h3]
    exact q5.putN o6 g6
  · have k3 : s.kind ≠ 3 := eqI_false.1 h3
    refine fin ?_ (Only.refl noL h5) fun i c => c.elim
    unfold Tre.step
    rw [if_neg k0, if_neg k1, if_neg k2, if_neg k3]
    exact q5
end Go.Proofs.Ytiejkbmobmgdkaa
