/- Records are read back, in the document's words. No condition. -/
import Derived.Test.YtlbigopkplckaaaRdN
namespace Go.Proofs.Ytlbigopkplckaaa
open Go Go.Am
set_option linter.all false
set_option maxRecDepth 100000
section
variable {KA : AV → Int → H → Prop}
theorem t26 {K V : List UInt8} (hlV : V.length ≤ 140737488351232) (hk : RecK K V KA) : s26G J0 pKeepL pNumR pStR pByt g64 (kvAV K V) H0 KA := by
  unfold s26G
  obtain ⟨S, hS⟩ : ∃ S, S = subK := ⟨_, rfl⟩
  obtain ⟨X, hX⟩ : ∃ X, X = g64 := ⟨_, rfl⟩
  obtain ⟨J, hJ⟩ : ∃ J, J = J0 := ⟨_, rfl⟩
  rw [← hS, ← hX, ← hJ]
  have S1 : ∀ (l : List UInt8) (m n : Nat), m ≤ n → n ≤ l.length → ∀ k, S (.str (Str.of l)) (some (.int .i64 (Int.ofNat m))) (some (.int .i64 (Int.ofNat n))) k = k (Str.of ((l.take n).drop m)) := fun l m n h h2 k => by rw [hS]; exact subK_mid h h2 k
  have S2 : ∀ (l : List UInt8) (m : Nat), m ≤ l.length → ∀ k, S (.str (Str.of l)) (some (.int .i64 (Int.ofNat m))) none k = k (Str.of (l.drop m)) := fun l m h k => by rw [hS]; exact subK_hi h k
  have X1 : ∀ {l : List UInt8} {h : H} {K : AV → H → Prop}, l.length = 4 → (∀ n, BackP l n → K (.int .i32 n) h) → X [.str (Str.of l)] h K := fun hl hk => by rw [hX]; exact g64_at hl hk
  clear hS hX
  simp only [fI_eq]
  by_cases h9 : K.length = 9
  · have b9 : eqI (Int.ofNat (Str.of K).len) (Int.ofNat 9) = true := eqI_true.2 (by show (K.length : Int) = 9; omega)
    conv => whnf
    refine rec_false (by show Bool.not (eqI (Int.ofNat (Str.of K).len) (Int.ofNat 9)) = false; rw [b9]; rfl) ?_
    conv => whnf
    rw [S1 K 1 5 (by decide) (by omega)]
    conv => whnf
    rw [S2 K 5 (by omega)]
    conv => whnf
    refine X1 (by rw [List.length_drop, List.length_take]; omega) fun n hB1 => ?_
    conv => whnf
    refine rec_true (show readsSo _ _ = true from reads_self rfl (by simp [AV.same])) ?_
    conv => whnf
    refine X1 (by rw [List.length_drop]; omega) fun m hB2 => ?_
    conv => whnf
    refine ⟨2, 97, 4, V, false, rfl, rfl, by decide, ⟨Nat.zero_le _, rfl⟩, hlV, fun st v1 c1 hN1 => ?_⟩
    dsimp only [putted]
    conv => whnf
    refine ⟨2, 97, 1099511627776, v1, c1, rfl, rfl, by decide, ⟨Nat.zero_le _, rfl⟩, Nat.le_trans hN1.2.2 hlV, fun beat v2 c2 hN2 => ?_⟩
    dsimp only [putted]
    conv => whnf
    refine ⟨2, 97, v2, c2, rfl, ⟨Nat.zero_le _, rfl⟩, fun pw pl pt v3 c3 hSp l3 => ?_⟩
    dsimp only [putted]
    conv => whnf
    have hd := fun n' m' st' w' l' t' ks' beat' pw' pl' pt' => rec_head (n' := n') (m' := m') (st' := st') (w' := w') (l' := l') (t' := t') (ks' := ks') (beat' := beat') (pw' := pw') (pl' := pl') (pt' := pt') hB1 hB2 hN1 hN2 hSp
    have hlv3 : v3.length ≤ V.length := Nat.le_trans l3 (Nat.le_trans hN2.2.2 hN1.2.2)
    clear hB1 hB2 hN1 hN2 hSp l3 X1 S1 S2
    generalize wrapF .u8 st = st at hd ⊢
    refine jd_introJ (J := J) (PRec K V 97) (fun j hj => ?_) ?_
    · simp only [Joins.jn_ok]
      conv => whnf
      by_cases hE : endsB st = true
      · have hE2 : eqI st (Int.ofNat 2) = true ∨ (eqI st (Int.ofNat 2) = false ∧ eqI st (Int.ofNat 3) = true) := by
          unfold endsB at hE
          cases h2 : eqI st (Int.ofNat 2)
          · rw [h2, Bool.false_or] at hE; exact .inr ⟨rfl, hE⟩
          · exact .inl rfl
        rcases hE2 with h2 | ⟨h2, h3⟩
        · refine rec_true h2 ?_
          conv => whnf
          refine ⟨2, 97, v3, c3, rfl, ⟨Nat.zero_le _, rfl⟩, fun w l t v4 c4 hSa l4 => ?_⟩
          dsimp only [putted]
          conv => whnf
          refine ⟨2, 97, 24, v4, c4, rfl, rfl, by decide, ⟨Nat.zero_le _, rfl⟩, by omega, fun xk v5 c5 hNk => ?_⟩
          obtain ⟨xv, rfl, hx⟩ := hNk.2.1
          have hl5 := hNk.2.2
          have F0 : FitL K V n m st w l t [] beat pw pl pt c5 v5 xv := by
            intro n' m' st' w' l' t' ks' beat' pw' pl' pt' o
            obtain ⟨e1, e2, e3, e4, e5, e6, e7, e8, e9⟩ := hd _ _ _ _ _ _ _ _ _ _ _ o
            rw [← e3, hE] at e9
            have k := (knI_ok o.kn).1
            obtain ⟨f1, f2, f3, f4, f5⟩ := hSa w' l' t' _ e8 (k.at' (by rw [← e3]; exact hE)) e9
            have kl := k.len
            obtain ⟨g1, g2, g3⟩ := hNk.1 ks'.length _ f5 (by omega) kl f4
            injection g1 with g1
            exact ⟨e1, e2, e3, f1, f2, f3, e4, e5, e6, e7, g3, ks', rfl, g1.symm, g2⟩
          dsimp only [putted]
          conv => whnf
          refine lp_ruleJ (J := J) (fun c x d h' => x = (.ptr 0 0, .ptr 1 0, .ptr 2 0, .ptr 3 0, .int .i64 (Int.ofNat c), ()) ∧ d = [] ∧ ∃ rest bad kv ks, RcAt K V 97 h' rest bad n m st w l t kv ks beat pw pl pt ∧ FitL K V n m st w l t ks beat pw pl pt bad rest c ∧ ks.length + c ≤ 24 ∧ rest.length ≤ V.length) ?_ (n := xv) (by unfold fuel; omega)
            ⟨rfl, rfl, v5, c5, .nils, [], ⟨rfl, Nat.le_refl _, rfl, rfl, rfl, rfl, .inl ⟨rfl, rfl⟩⟩, F0, by simpa using hx, by omega⟩
          subst hJ
          rintro c self x d h' ⟨rfl, rfl, rest, bad, kv, ks, A, F, hlc, hlr⟩ hs
          dsimp only
          have L1 : ∀ k : Bool → Prop, ldB (.ptr 2 (Nat.add 0 1)) h' k = k bad := fun k => ldB_at A.g2 (x := bad) rfl k
          rw [asI_int, fB_eq]
          have fin : (c = 0 ∨ bad = true) → j (.ptr 0 0, .ptr 1 0, .ptr 2 0, .ptr 3 0, ()) [] h' := fun h => hj _ _ _ ⟨rfl, rfl, rest, bad, n, m, st, w, l, t, kv, ks, beat, pw, pl, pt, A, F.fin h⟩
          cases c with
          | zero =>
            rw [show ltI (Int.ofNat 0) (Int.ofNat 0) = false from rfl]
            simp only [↓jn_is, ↓br_t, ↓br_f, ↓pickB_t, ↓pickB_f, ↓asB_bool, ↓asI_int, ↓okNil_ptr, ↓faK_ptr]
            exact fin (.inl rfl)
          | succ c =>
            rw [lt_ltI (by omega : 0 < c + 1)]
            cases bad with
            | true =>
              simp only [↓jn_is, ↓br_t, ↓br_f, ↓pickB_t, ↓pickB_f, ↓asB_bool, ↓asI_int, ↓okNil_ptr, ↓faK_ptr, ↓L1, ↓fB_eq, ↓Bool.not_true]
              exact fin (.inr rfl)
            | false =>
              simp only [↓jn_is, ↓br_t, ↓br_f, ↓pickB_t, ↓pickB_f, ↓asB_bool, ↓asI_int, ↓okNil_ptr, ↓faK_ptr, ↓L1, ↓fB_eq, ↓Bool.not_false]
              rw [ldV_at A.g3 (v := kv) rfl]
              refine ⟨2, 97, 128, rest, false, rfl, rfl, by decide, A.rd, by omega, fun x v1 c1 hN => ?_⟩
              obtain ⟨xv, rfl, hx⟩ := hN.2.1
              have A1 := A.read v1 c1
              generalize putted h' 2 (.cells false 97 (rdC v1 c1)) = h1 at A1 ⊢
              refine ck_intro (reads_self ((aLoad1_at A1.g3).trans rfl) A1.kr.same) ?_
              refine ⟨2, 97, xv, v1, c1, rfl, rfl, A1.rd, fun out v2 c2 hB => ?_⟩
              have A2 := A1.read v2 c2
              generalize putted h1 2 (.cells false 97 (rdC v2 c2)) = h2 at A2 ⊢
              refine ck_intro (reads_self ((aLoad1_at A2.g3).trans rfl) A2.kr.same) ?_
              refine apC_key A2.kr A2.nx (by rw [A2.base]; omega) (by omega) fun v' h3 q3 l3 => ?_
              have g3 := (l3.get 3 (by omega)).trans A2.g3
              have n3 := A2.nx
              have l3n := l3.next
              rw [stV_at g3 q3.one (cs' := recL n m st w l t v' beat pw pl pt) rfl (by omega) (by rw [l3.base, A2.base]; omega), sub_one c (by omega)]
              refine hs c _ _ _ (by omega) ⟨rfl, rfl, v2, c2, v', ks ++ [out], ?_, F.step hN hB, by simp; omega, Nat.le_trans (byt_le hB) (Nat.le_trans hN.2.2 hlr)⟩
              exact A2.app l3 q3
        · refine rec_false h2 ?_
          conv => whnf
          refine rec_true h3 ?_
          conv => whnf
          refine ⟨2, 97, v3, c3, rfl, ⟨Nat.zero_le _, rfl⟩, fun w l t v4 c4 hSa l4 => ?_⟩
          dsimp only [putted]
          conv => whnf
          refine ⟨2, 97, 24, v4, c4, rfl, rfl, by decide, ⟨Nat.zero_le _, rfl⟩, by omega, fun xk v5 c5 hNk => ?_⟩
          obtain ⟨xv, rfl, hx⟩ := hNk.2.1
          have hl5 := hNk.2.2
          have F0 : FitL K V n m st w l t [] beat pw pl pt c5 v5 xv := by
            intro n' m' st' w' l' t' ks' beat' pw' pl' pt' o
            obtain ⟨e1, e2, e3, e4, e5, e6, e7, e8, e9⟩ := hd _ _ _ _ _ _ _ _ _ _ _ o
            rw [← e3, hE] at e9
            have k := (knI_ok o.kn).1
            obtain ⟨f1, f2, f3, f4, f5⟩ := hSa w' l' t' _ e8 (k.at' (by rw [← e3]; exact hE)) e9
            have kl := k.len
            obtain ⟨g1, g2, g3⟩ := hNk.1 ks'.length _ f5 (by omega) kl f4
            injection g1 with g1
            exact ⟨e1, e2, e3, f1, f2, f3, e4, e5, e6, e7, g3, ks', rfl, g1.symm, g2⟩
          dsimp only [putted]
          conv => whnf
          refine lp_ruleJ (J := J) (fun c x d h' => x = (.ptr 0 0, .ptr 1 0, .ptr 2 0, .ptr 3 0, .int .i64 (Int.ofNat c), ()) ∧ d = [] ∧ ∃ rest bad kv ks, RcAt K V 97 h' rest bad n m st w l t kv ks beat pw pl pt ∧ FitL K V n m st w l t ks beat pw pl pt bad rest c ∧ ks.length + c ≤ 24 ∧ rest.length ≤ V.length) ?_ (n := xv) (by unfold fuel; omega)
            ⟨rfl, rfl, v5, c5, .nils, [], ⟨rfl, Nat.le_refl _, rfl, rfl, rfl, rfl, .inl ⟨rfl, rfl⟩⟩, F0, by simpa using hx, by omega⟩
          subst hJ
          rintro c self x d h' ⟨rfl, rfl, rest, bad, kv, ks, A, F, hlc, hlr⟩ hs
          dsimp only
          have L1 : ∀ k : Bool → Prop, ldB (.ptr 2 (Nat.add 0 1)) h' k = k bad := fun k => ldB_at A.g2 (x := bad) rfl k
          rw [asI_int, fB_eq]
          have fin : (c = 0 ∨ bad = true) → j (.ptr 0 0, .ptr 1 0, .ptr 2 0, .ptr 3 0, ()) [] h' := fun h => hj _ _ _ ⟨rfl, rfl, rest, bad, n, m, st, w, l, t, kv, ks, beat, pw, pl, pt, A, F.fin h⟩
          cases c with
          | zero =>
            rw [show ltI (Int.ofNat 0) (Int.ofNat 0) = false from rfl]
            simp only [↓jn_is, ↓br_t, ↓br_f, ↓pickB_t, ↓pickB_f, ↓asB_bool, ↓asI_int, ↓okNil_ptr, ↓faK_ptr]
            exact fin (.inl rfl)
          | succ c =>
            rw [lt_ltI (by omega : 0 < c + 1)]
            cases bad with
            | true =>
              simp only [↓jn_is, ↓br_t, ↓br_f, ↓pickB_t, ↓pickB_f, ↓asB_bool, ↓asI_int, ↓okNil_ptr, ↓faK_ptr, ↓L1, ↓fB_eq, ↓Bool.not_true]
              exact fin (.inr rfl)
            | false =>
              simp only [↓jn_is, ↓br_t, ↓br_f, ↓pickB_t, ↓pickB_f, ↓asB_bool, ↓asI_int, ↓okNil_ptr, ↓faK_ptr, ↓L1, ↓fB_eq, ↓Bool.not_false]
              rw [ldV_at A.g3 (v := kv) rfl]
              refine ⟨2, 97, 128, rest, false, rfl, rfl, by decide, A.rd, by omega, fun x v1 c1 hN => ?_⟩
              obtain ⟨xv, rfl, hx⟩ := hN.2.1
              have A1 := A.read v1 c1
              generalize putted h' 2 (.cells false 97 (rdC v1 c1)) = h1 at A1 ⊢
              refine ck_intro (reads_self ((aLoad1_at A1.g3).trans rfl) A1.kr.same) ?_
              refine ⟨2, 97, xv, v1, c1, rfl, rfl, A1.rd, fun out v2 c2 hB => ?_⟩
              have A2 := A1.read v2 c2
              generalize putted h1 2 (.cells false 97 (rdC v2 c2)) = h2 at A2 ⊢
              refine ck_intro (reads_self ((aLoad1_at A2.g3).trans rfl) A2.kr.same) ?_
              refine apC_key A2.kr A2.nx (by rw [A2.base]; omega) (by omega) fun v' h3 q3 l3 => ?_
              have g3 := (l3.get 3 (by omega)).trans A2.g3
              have n3 := A2.nx
              have l3n := l3.next
              rw [stV_at g3 q3.one (cs' := recL n m st w l t v' beat pw pl pt) rfl (by omega) (by rw [l3.base, A2.base]; omega), sub_one c (by omega)]
              refine hs c _ _ _ (by omega) ⟨rfl, rfl, v2, c2, v', ks ++ [out], ?_, F.step hN hB, by simp; omega, Nat.le_trans (byt_le hB) (Nat.le_trans hN.2.2 hlr)⟩
              exact A2.app l3 q3
      · have hE : endsB st = false := by cases h : endsB st; rfl; exact absurd h hE
        have hE' := hE
        unfold endsB at hE'
        rw [Bool.or_eq_false_iff] at hE'
        refine rec_false hE'.1 ?_
        conv => whnf
        refine rec_false hE'.2 ?_
        conv => whnf
        refine hj _ _ _ ⟨rfl, rfl, v3, c3, n, m, st, 0, 0, 0, .nils, [], beat, pw, pl, pt, ⟨rfl, Nat.le_refl _, rfl, rfl, rfl, rfl, .inl ⟨rfl, rfl⟩⟩, fun n' m' st' w' l' t' ks' beat' pw' pl' pt' o => ?_⟩
        obtain ⟨e1, e2, e3, e4, e5, e6, e7, e8, e9⟩ := hd _ _ _ _ _ _ _ _ _ _ _ o
        obtain ⟨z1, z2, z3, z4⟩ := knI_z o.kn (by rw [← e3]; exact hE)
        rw [← e3, hE] at e9
        exact ⟨e1, e2, e3, z1.symm, z2.symm, z3.symm, z4.symm, e4, e5, e6, e7, e8, e9⟩
    · subst hJ
      rintro v' d' h' ⟨rfl, rfl, rest, bad, n, m, st, w, l, t, kv, ks, beat, pw, pl, pt, A, F⟩
      dsimp only
      rw [ldN_at A.g3 (l := recL n m st w l t kv beat pw pl pt) rfl]
      refine ⟨n, m, st, w, l, t, kv, beat, pw, pl, pt, ks, rfl, A.kr.keys, ?_⟩
      dsimp only
      refine push_out _ _ _ fun h1 lo g4 n4 => ?_
      have A1 := A.low lo A.nx (A.kr.low lo (Nat.le_refl _))
      have nA := A.nx
      have bA := A1.base
      have L : ∀ b, Low h'.next h' (putted h1 h'.next b) := fun b => lo.trans (Low.put (n := h'.next) (h := h1) (i := h'.next) b (by omega) (Nat.le_refl _))
      have no : ∀ (b : Blk) G, ¬ (RecOk K V n m st w l t ks beat pw pl pt ∧ bad = false ∧ rest = []) → stN 11 (.ptr 1 0) zL (putted h1 h'.next b) fun h1 => leaveK G [] h1 fun h2 => ldN 11 (.ptr 1 0) h2 fun l => KA (.agg l) (Int.ofNat 5) h2 := fun b G hno => by
        refine put1z (A.low (L b) A.nx (A.kr.low (L b) (Nat.le_refl _))) _ hk fun n' m' st' w' l' t' ks' beat' pw' pl' pt' o => ?_
        obtain ⟨rfl, rfl, rfl, rfl, rfl, rfl, rfl, rfl, rfl, rfl, rfl, hb⟩ := F _ _ _ _ _ _ _ _ _ _ _ o
        exact hno ⟨o, hb⟩
      have q0 := beq_nil rest
      cases hc : eqI (knI n m st w l t ks beat pw pl pt) (Int.ofNat 0) with
      | false =>
        have e1 : keepV n m st w l t ks beat pw pl pt = noWr := by unfold keepV; rw [hc]; rfl
        rw [e1]
        show stN 3 (.ptr h'.next 0) [.str ⟨0, 0⟩, .str ⟨0, 0⟩, .bool false] h1 _
        rw [stN_at (n := 3) g4 rfl rfl (cs' := [.str ⟨0, 0⟩, .str ⟨0, 0⟩, .bool false]) rfl (by omega) (by omega)]
        have A2 := A.low (L (.cells false 23 [.str ⟨0, 0⟩, .str ⟨0, 0⟩, .bool false])) A.nx (A.kr.low (L _) (Nat.le_refl _))
        have no := no (.cells false 23 [.str ⟨0, 0⟩, .str ⟨0, 0⟩, .bool false])
        generalize putted h1 h'.next (.cells false 23 [.str ⟨0, 0⟩, .str ⟨0, 0⟩, .bool false]) = h2 at A2 no ⊢
        have L1 : ∀ k : Bool → Prop, ldB (.ptr 2 (Nat.add 0 1)) h2 k = k bad := fun k => ldB_at A2.g2 (x := bad) rfl k
        have L6 : ∀ k : Str → Prop, ldS (.ptr 2 (Nat.add 0 0)) h2 k = k (Str.of rest) := fun k => ldS_at A2.g2 (x := Str.of rest) rfl k
        have nope : ∀ q : Prop, ¬ (RecOk K V n m st w l t ks beat pw pl pt ∧ q) := fun q h => by have h1 := h.1.kn; rw [hc] at h1; cases h1
        cases bad with
        | true =>
          simp only [↓jn_is, ↓br_t, ↓br_f, ↓pickB_t, ↓pickB_f, ↓asB_bool, ↓asI_int, ↓okNil_ptr, ↓faK_ptr, ↓L1, ↓fB_eq]
          exact no _ (nope _)
        | false =>
          by_cases hr : rest = []
          · rw [decide_eq_true hr] at q0
            simp only [↓jn_is, ↓br_t, ↓br_f, ↓pickB_t, ↓pickB_f, ↓asB_bool, ↓asI_int, ↓asS_str, ↓okNil_ptr, ↓faK_ptr, ↓L1, ↓L6, ↓fB_eq, q0, hc, Bool.not_true, Bool.not_false]
            exact no _ (nope _)
          · rw [decide_eq_false hr] at q0
            simp only [↓jn_is, ↓br_t, ↓br_f, ↓pickB_t, ↓pickB_f, ↓asB_bool, ↓asI_int, ↓asS_str, ↓okNil_ptr, ↓faK_ptr, ↓L1, ↓L6, ↓fB_eq, q0, hc, Bool.not_true, Bool.not_false]
            exact no _ (nope _)
      | true =>
        have e1 : keepV n m st w l t ks beat pw pl pt = wrAV (Str.of (plB n.toNat m.toNat)) (Str.of (keepB st w l t ks beat pw pl pt)) false := by unfold keepV; rw [hc]; rfl
        rw [e1]
        show stN 3 (.ptr h'.next 0) [.str (Str.of (plB n.toNat m.toNat)), .str (Str.of (keepB st w l t ks beat pw pl pt)), .bool false] h1 _
        rw [stN_at (n := 3) g4 rfl rfl (cs' := [.str (Str.of (plB n.toNat m.toNat)), .str (Str.of (keepB st w l t ks beat pw pl pt)), .bool false]) rfl (by omega) (by omega)]
        have A2 := A.low (L (.cells false 23 [.str (Str.of (plB n.toNat m.toNat)), .str (Str.of (keepB st w l t ks beat pw pl pt)), .bool false])) A.nx (A.kr.low (L _) (Nat.le_refl _))
        have no := no (.cells false 23 [.str (Str.of (plB n.toNat m.toNat)), .str (Str.of (keepB st w l t ks beat pw pl pt)), .bool false])
        have g5 : (putted h1 h'.next (.cells false 23 [.str (Str.of (plB n.toNat m.toNat)), .str (Str.of (keepB st w l t ks beat pw pl pt)), .bool false])).get h'.next = .cells false 23 [.str (Str.of (plB n.toNat m.toNat)), .str (Str.of (keepB st w l t ks beat pw pl pt)), .bool false] := by rw [putted_get _ _ _ (by omega), if_pos rfl]
        generalize putted h1 h'.next (.cells false 23 [.str (Str.of (plB n.toNat m.toNat)), .str (Str.of (keepB st w l t ks beat pw pl pt)), .bool false]) = h2 at A2 g5 no ⊢
        have L1 : ∀ k : Bool → Prop, ldB (.ptr 2 (Nat.add 0 1)) h2 k = k bad := fun k => ldB_at A2.g2 (x := bad) rfl k
        have L6 : ∀ k : Str → Prop, ldS (.ptr 2 (Nat.add 0 0)) h2 k = k (Str.of rest) := fun k => ldS_at A2.g2 (x := Str.of rest) rfl k
        have L2 : ∀ k : Str → Prop, ldS (.ptr h'.next 0) h2 k = k (Str.of (plB n.toNat m.toNat)) := fun k => ldS_at g5 (x := Str.of (plB n.toNat m.toNat)) rfl k
        have L3 : ∀ k : Str → Prop, ldS (.ptr h'.next 1) h2 k = k (Str.of (keepB st w l t ks beat pw pl pt)) := fun k => ldS_at g5 (x := Str.of (keepB st w l t ks beat pw pl pt)) rfl k
        have L4 : ∀ k : Str → Prop, ldS (.ptr 0 (Nat.add 0 0)) h2 k = k (Str.of K) := fun k => ldS_at A2.g0 (x := Str.of K) rfl k
        have L5 : ∀ k : Str → Prop, ldS (.ptr 0 (Nat.add 0 1)) h2 k = k (Str.of V) := fun k => ldS_at A2.g0 (x := Str.of V) rfl k
        cases bad with
        | true =>
          simp only [↓jn_is, ↓br_t, ↓br_f, ↓pickB_t, ↓pickB_f, ↓asB_bool, ↓asI_int, ↓okNil_ptr, ↓faK_ptr, ↓L1, ↓fB_eq]
          exact no _ fun h => by cases h.2.1
        | false =>
          by_cases hr : rest = []
          · rw [decide_eq_true hr] at q0
            have q1 := beq_lit (plB n.toNat m.toNat) K
            have q2 := beq_lit (keepB st w l t ks beat pw pl pt) V
            by_cases c1 : plB n.toNat m.toNat = K
            · rw [decide_eq_true c1] at q1
              by_cases c2 : keepB st w l t ks beat pw pl pt = V
              · rw [decide_eq_true c2] at q2
                simp only [↓jn_is, ↓br_t, ↓br_f, ↓pickB_t, ↓pickB_f, ↓asB_bool, ↓asI_int, ↓asS_str, ↓okNil_ptr, ↓faK_ptr, ↓L1, ↓L2, ↓L3, ↓L4, ↓L5, ↓L6, ↓fB_eq, q0, q1, q2, hc, Bool.not_true, Bool.not_false]
                exact put1k A2 _ hk ⟨hc, c1.symm, c2.symm⟩
              · rw [decide_eq_false c2] at q2
                simp only [↓jn_is, ↓br_t, ↓br_f, ↓pickB_t, ↓pickB_f, ↓asB_bool, ↓asI_int, ↓asS_str, ↓okNil_ptr, ↓faK_ptr, ↓L1, ↓L2, ↓L3, ↓L4, ↓L5, ↓L6, ↓fB_eq, q0, q1, q2, hc, Bool.not_true, Bool.not_false]
                exact no _ fun h => c2 h.1.v.symm
            · rw [decide_eq_false c1] at q1
              simp only [↓jn_is, ↓br_t, ↓br_f, ↓pickB_t, ↓pickB_f, ↓asB_bool, ↓asI_int, ↓asS_str, ↓okNil_ptr, ↓faK_ptr, ↓L1, ↓L2, ↓L3, ↓L4, ↓L5, ↓L6, ↓fB_eq, q0, q1, hc, Bool.not_true, Bool.not_false]
              exact no _ fun h => c1 h.1.k.symm
          · rw [decide_eq_false hr] at q0
            simp only [↓jn_is, ↓br_t, ↓br_f, ↓pickB_t, ↓pickB_f, ↓asB_bool, ↓asI_int, ↓asS_str, ↓okNil_ptr, ↓faK_ptr, ↓L1, ↓L6, ↓fB_eq, q0, Bool.not_true, Bool.not_false]
            exact no _ fun h => hr h.2.2
  · have b9 : eqI (Int.ofNat (Str.of K).len) (Int.ofNat 9) = false := eqI_false.2 (by show ¬ (K.length : Int) = 9; omega)
    conv => whnf
    refine rec_true (by show Bool.not (eqI (Int.ofNat (Str.of K).len) (Int.ofNat 9)) = true; rw [b9]; rfl) ?_
    conv => whnf
    refine hk _ _ _ _ _ _ _ [] _ _ _ _ _ _ (.inr ⟨fun n m st w l t ks beat pw pl pt ho => ?_, rfl, rfl, rfl, rfl, rfl, rfl, rfl, rfl, rfl, rfl, rfl, rfl⟩) (.inl ⟨rfl, rfl⟩)
    apply h9; rw [ho.k]; simp [plB, be_len]
end
end Go.Proofs.Ytlbigopkplckaaa
