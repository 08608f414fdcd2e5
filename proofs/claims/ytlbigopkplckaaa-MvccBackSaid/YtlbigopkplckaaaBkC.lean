/- The law MvccBack, told: over every cell, intent, record, key and value it answers true. No condition. -/
import Derived.Test.YtlbigopkplckaaaBkB
namespace Go.Proofs.Ytlbigopkplckaaa
open Go Go.Am
set_option linter.all false
set_option maxRecDepth 100000
noncomputable def pWh : AV → H → (Bool → H → Prop) → Prop := fun a h k => ∃ K V : List UInt8, a = kvAV K V ∧ K.length ≤ 140737488351232 ∧ V.length ≤ 140737488351232 ∧ k true h
/-- ways that meet again are held apart; the others are not -/
noncomputable def mkJ (D : {α : Type} → (α → List Dfr → H → Prop) → ((α → List Dfr → H → Prop) → Prop) → Prop) (hD : ∀ (α : Type) (j : α → List Dfr → H → Prop) b, D j b = b j) : Joins :=
  ⟨fun j b => b j, fun j b => b j, D, fun b => loopN b fuel, fun _ _ => rfl, fun _ _ => rfl, hD, fun _ _ _ _ _ => rfl⟩
theorem mkJ_0 : J0 = mkJ (fun j b => b j) (fun _ _ _ => rfl) := rfl
theorem D_intro {D : {α : Type} → (α → List Dfr → H → Prop) → ((α → List Dfr → H → Prop) → Prop) → Prop} (hD : ∀ (α : Type) (j : α → List Dfr → H → Prop) b, D j b = b j) {α : Type} {j : α → List Dfr → H → Prop} {b : (α → List Dfr → H → Prop) → Prop} (P : α → List Dfr → H → Prop) (hb : ∀ j', (∀ v d h, P v d h → j' v d h) → b j') (hj : ∀ v d h, P v d h → j v d h) : D j b := by
  rw [hD]; exact hb _ hj
theorem D_one {D : {α : Type} → (α → List Dfr → H → Prop) → ((α → List Dfr → H → Prop) → Prop) → Prop} (hD : ∀ (α : Type) (j : α → List Dfr → H → Prop) b, D j b = b j) {α : Type} {j : α → List Dfr → H → Prop} {b : (α → List Dfr → H → Prop) → Prop} (v0 : α) (d0 : List Dfr) (h0 : H) (hb : ∀ j' : α → List Dfr → H → Prop, j' v0 d0 h0 → b j') (hj : j v0 d0 h0) : D j b := by
  rw [hD]; exact hb _ hj
theorem usr_len {l : List UInt8} (h : usr (Str.of l) = true) : l.length ≤ 128 := (usr_iff h).2
theorem mid_lenB {l : List UInt8} (h : l.length ≤ 128) : (mid l).length ≤ 258 := by have := mid_len l; omega
theorem cell_lens {key val : List UInt8} {w l t : Int} {del : Bool} (h : okC (Str.of key) w l t (Str.of val) del = true) : (99 :: (mid key ++ stB w l t)).length ≤ 140737488351232 ∧ (flagB del val).length ≤ 140737488351232 := by
  simp only [okC, Bool.and_eq_true] at h
  have h1 := mid_lenB (usr_len h.1)
  have h2 := (wor_iff h.2.1).1
  refine ⟨by simp [stB_len]; omega, ?_⟩
  unfold flagB; split <;> simp <;> omega
theorem lay_lens {key anchor val : List UInt8} {n m bw bl bt w l t : Int} {del : Bool} (h : okI (Str.of key) n m bw bl bt (Str.of anchor) w l t (Str.of val) del = true) : (105 :: mid key).length ≤ 140737488351232 ∧ (layB n m bw bl bt anchor w l t val del).length ≤ 140737488351232 := by
  have o := okI_parts h
  simp only [okI, Bool.and_eq_true] at h
  have h1 := mid_lenB (usr_len h.2.1)
  have h2 := (wor_iff h.2.2.2.1).1
  have o0 := o.n0; have o1 := o.n1; have o2 := o.m0; have o3 := o.m1; have o4 := o.al
  have v1 := uv_len 9 n.toNat (Nat.lt_trans (m := 9223372036854775808) (by omega) (by decide))
  have v2 := uv_len 9 m.toNat (Nat.lt_trans (m := 9223372036854775808) (by omega) (by decide))
  have v3 := uv_len 9 anchor.length (Nat.lt_trans (m := 9223372036854775808) (by omega) (by decide))
  have v4 : (flagB del val).length ≤ 2049 := by unfold flagB; split <;> simp <;> omega
  refine ⟨by simp; omega, ?_⟩
  unfold layB
  simp only [List.length_append, stB_len]; omega
theorem keep_lens {n m st w l t : Int} {ks : List (List UInt8)} {beat pw pl pt : Int} (h : eqI (knI n m st w l t ks beat pw pl pt) (Int.ofNat 0) = true) : (plB n.toNat m.toNat).length ≤ 140737488351232 ∧ (keepB st w l t ks beat pw pl pt).length ≤ 140737488351232 := by
  have kn := (knI_ok h).1
  have v1 := uv_len 9 st.toNat (Nat.lt_trans (m := 9223372036854775808) (by have := kn.st1; omega) (by decide))
  have v2 := uv_len 9 beat.toNat (Nat.lt_trans (m := 9223372036854775808) (by have := kn.b1; omega) (by decide))
  have v3 := uv_len 9 ks.length (Nat.lt_trans (m := 9223372036854775808) (by have := kn.len; omega) (by decide))
  have kl := keys_len kn.us ks.length
  rw [List.take_length] at kl
  have klen := kn.len
  refine ⟨by simp [plB, be_len], ?_⟩
  unfold keepB
  cases endsB st <;> simp only [List.length_append, stB_len, cond_true, cond_false, List.length_nil] <;> omega
theorem neCe (key val : Str) (w l t : Int) (del : Bool) : aBin ty .neq 31 false (ceAV key w l t val del) (ceAV key w l t val del) = some (.bool false) := by
  have : aBin ty .neq 31 false (ceAV key w l t val del) (ceAV key w l t val del) = Option.map (fun b => AV.bool (Bool.not b)) (match some (Str.beq key key) with | some true => (match (match some (eqI w w) with | some true => (match some (eqI l l) with | some true => (match some (eqI t t) with | some true => some true | some false => some false | none => none) | some false => some false | none => none) | some false => some false | none => none) with | some true => (match some (Str.beq val val) with | some true => (match some (Bool.rec (Bool.not del) del del : Bool) with | some true => some true | some false => some false | none => none) | some false => some false | none => none) | some false => some false | none => none) | some false => some false | none => none) := rfl
  rw [this]; simp only [beq_self, eqI_refl]; cases del <;> rfl
theorem neIn (key anchor val : Str) (n m bw bl bt w l t : Int) (del : Bool) : aBin ty .neq 41 false (inAV key n m bw bl bt anchor w l t val del) (inAV key n m bw bl bt anchor w l t val del) = some (.bool false) := by
  have : aBin ty .neq 41 false (inAV key n m bw bl bt anchor w l t val del) (inAV key n m bw bl bt anchor w l t val del) = Option.map (fun b => AV.bool (Bool.not b)) (match some (Str.beq key key) with | some true => (match (match some (eqI n n) with | some true => (match some (eqI m m) with | some true => some true | some false => some false | none => none) | some false => some false | none => none) with | some true => (match (match some (eqI bw bw) with | some true => (match some (eqI bl bl) with | some true => (match some (eqI bt bt) with | some true => some true | some false => some false | none => none) | some false => some false | none => none) | some false => some false | none => none) with | some true => (match some (Str.beq anchor anchor) with | some true => (match (match some (eqI w w) with | some true => (match some (eqI l l) with | some true => (match some (eqI t t) with | some true => some true | some false => some false | none => none) | some false => some false | none => none) | some false => some false | none => none) with | some true => (match some (Str.beq val val) with | some true => (match some (Bool.rec (Bool.not del) del del : Bool) with | some true => some true | some false => some false | none => none) | some false => some false | none => none) | some false => some false | none => none) | some false => some false | none => none) | some false => some false | none => none) | some false => some false | none => none) | some false => some false | none => none) := rfl
  rw [this]; simp only [beq_self, eqI_refl]; cases del <;> rfl

theorem usrI {key anchor val : List UInt8} {n m bw bl bt w l t : Int} {del : Bool} (h : okI (Str.of key) n m bw bl bt (Str.of anchor) w l t (Str.of val) del = true) : usr (Str.of key) = true := by
  simp only [okI, Bool.and_eq_true] at h; exact h.2.1
theorem t6D {D : {α : Type} → (α → List Dfr → H → Prop) → ((α → List Dfr → H → Prop) → Prop) → Prop} (hD : ∀ (α : Type) (j : α → List Dfr → H → Prop) b, D j b = b j)
    {h0 : H} {v : AV} {ks : List (List UInt8)} (q : KV h0 v ks) {ckey cval : List UInt8} {cw cl ct : Int} {cdel : Bool} {dkey dval : List UInt8} {dw dl dt : Int} {ddel : Bool} {ikey ian ival : List UInt8} {inn im ibw ibl ibt iw il it : Int} {idel : Bool}
    {n m st w l t beat pw pl pt : Int} {K V : List UInt8} (hK : K.length ≤ 140737488351232) (hV : V.length ≤ 140737488351232) {KB : Bool → H → Prop} (hk : ∀ h', KB true h') :
    s6G (mkJ D hD) pPut pLives pCell pLay pKeepL pLift pInt pRec pSame pWh (ceAV (Str.of ckey) cw cl ct (Str.of cval) cdel) (ceAV (Str.of dkey) dw dl dt (Str.of dval) ddel) (inAV (Str.of ikey) inn im ibw ibl ibt (Str.of ian) iw il it (Str.of ival) idel)
      (recAV n m st w l t v beat pw pl pt) (kvAV K V) h0 KB := by
  have q' := q
  rcases q with ⟨rfl, rfl, hks⟩ | ⟨tt, c, ex, rfl, rfl⟩
  all_goals
    conv => whnf
    refine ⟨_, _, _, _, _, _, rfl, ?_⟩
    dsimp only
    cases hc : okC (Str.of ckey) cw cl ct (Str.of cval) cdel with
    | true =>
      rw [putV, hc]
      conv => whnf
      refine ⟨_, _, _, _, _, _, rfl, ?_⟩
      dsimp only
      obtain ⟨B1, B2, B3, hB⟩ : ∃ B1 B2 B3, putV dkey dw dl dt dval ddel = wrAV B1 B2 B3 ∧ (okC (Str.of dkey) dw dl dt (Str.of dval) ddel = true → B1 = Str.of (keyC dkey dw dl dt)) := by
        cases hd : okC (Str.of dkey) dw dl dt (Str.of dval) ddel with
        | true => exact ⟨_, _, _, by rw [putV, hd]; rfl, fun _ => rfl⟩
        | false => exact ⟨_, _, _, by rw [putV, hd]; rfl, fun h => by cases h⟩
      obtain ⟨e, hed⟩ : ∃ e, e = bad (okC (Str.of dkey) dw dl dt (Str.of dval) ddel) := ⟨_, rfl⟩
      rw [hB.1, ← hed]
      conv => whnf
      rw [hD]
      conv => whnf
      refine ⟨_, _, rfl, (cell_lens hc).1, (cell_lens hc).2, fun r e' hP => ?_⟩
      obtain ⟨hr, he⟩ := CellP.one (.inl ⟨_, _, _, _, _, _, hc, rfl, rfl, rfl, rfl⟩) hP
      subst hr he
      conv => whnf
      refine rec_some (neCe _ _ _ _ _ _) ?_
      conv => whnf
      apply D_one hD
      · intro j hj
        conv => whnf
        cases hd : okC (Str.of dkey) dw dl dt (Str.of dval) ddel with
        | false =>
          rw [hd] at hed
          subst hed
          conv => whnf
          exact hj
        | true =>
          rw [hd] at hed
          subst hed
          have hb1 := hB.2 hd
          subst hb1
          have oc := (okC_parts hc).2.1
          have od := (okC_parts hd).2.1
          have hKL := lt_key (k := ckey) (k' := dkey) oc od
          have hKE := eq_key (k := ckey) (k' := dkey) oc od
          have hS := eqSt cw cl ct dw dl dt
          have hE := beq_lit ckey dkey
          rw [hE] at hKL hKE
          by_cases hk2 : ckey = dkey
          · subst hk2
            have hA : Str.lt (Str.of ckey) (Str.of ckey) = false := by rw [Str.lt_of]; exact bl_irr _
            rw [decide_eq_true rfl] at hKL hKE hE
            rw [hA] at hKL
            simp only [Bool.false_or, Bool.true_and] at hKL hKE
            rcases Int.lt_trichotomy dw cw with h1 | h1 | h1
            · have f1 : ltI dw cw = true := ltI_true.2 h1
              have f2 : eqI cw dw = false := eqI_false.2 (by omega)
              rw [f1] at hKL; rw [f2] at hKE hS
              simp only [Bool.true_or, Bool.false_and] at hKL hKE hS
              repeat' ((conv => whnf); first | exact hj | refine rec_true (by assumption) ?_ | refine rec_false (by assumption) ?_ | refine rec_some hS ?_)
            · subst h1
              have f1 : ltI dw dw = false := ltI_false.2 (Int.le_refl _)
              have f2 : eqI dw dw = true := eqI_refl _
              rw [f1, f2] at hKL; rw [f2] at hKE hS
              simp only [Bool.false_or, Bool.true_and] at hKL hKE hS
              rcases Int.lt_trichotomy dl cl with h2 | h2 | h2
              · have f3 : ltI dl cl = true := ltI_true.2 h2
                have f4 : eqI cl dl = false := eqI_false.2 (by omega)
                rw [f3] at hKL; rw [f4] at hKE hS
                simp only [Bool.true_or, Bool.false_and] at hKL hKE hS
                repeat' ((conv => whnf); first | exact hj | refine rec_true (by assumption) ?_ | refine rec_false (by assumption) ?_ | refine rec_some hS ?_)
              · subst h2
                have f3 : ltI dl dl = false := ltI_false.2 (Int.le_refl _)
                have f4 : eqI dl dl = true := eqI_refl _
                rw [f3, f4] at hKL; rw [f4] at hKE hS
                simp only [Bool.false_or, Bool.true_and] at hKL hKE hS
                rcases Int.lt_trichotomy dt ct with h3 | h3 | h3
                · have f5 : ltI dt ct = true := ltI_true.2 h3
                  have f6 : eqI ct dt = false := eqI_false.2 (by omega)
                  rw [f5] at hKL; rw [f6] at hKE hS
                  repeat' ((conv => whnf); first | exact hj | refine rec_true (by assumption) ?_ | refine rec_false (by assumption) ?_ | refine rec_some hS ?_)
                · subst h3
                  have f5 : ltI dt dt = false := ltI_false.2 (Int.le_refl _)
                  have f6 : eqI dt dt = true := eqI_refl _
                  rw [f5] at hKL; rw [f6] at hKE hS
                  repeat' ((conv => whnf); first | exact hj | refine rec_true (by assumption) ?_ | refine rec_false (by assumption) ?_ | refine rec_some hS ?_)
                · have f5 : ltI dt ct = false := ltI_false.2 (by omega)
                  have f6 : eqI ct dt = false := eqI_false.2 (by omega)
                  rw [f5] at hKL; rw [f6] at hKE hS
                  repeat' ((conv => whnf); first | exact hj | refine rec_true (by assumption) ?_ | refine rec_false (by assumption) ?_ | refine rec_some hS ?_)
              · have f3 : ltI dl cl = false := ltI_false.2 (by omega)
                have f4 : eqI cl dl = false := eqI_false.2 (by omega)
                have f7 : eqI dl cl = false := eqI_false.2 (by omega)
                rw [f3, f7] at hKL; rw [f4] at hKE hS
                simp only [Bool.false_or, Bool.false_and] at hKL hKE hS
                repeat' ((conv => whnf); first | exact hj | refine rec_true (by assumption) ?_ | refine rec_false (by assumption) ?_ | refine rec_some hS ?_)
            · have f1 : ltI dw cw = false := ltI_false.2 (by omega)
              have f2 : eqI cw dw = false := eqI_false.2 (by omega)
              have f7 : eqI dw cw = false := eqI_false.2 (by omega)
              rw [f1, f7] at hKL; rw [f2] at hKE hS
              simp only [Bool.false_or, Bool.false_and] at hKL hKE hS
              repeat' ((conv => whnf); first | exact hj | refine rec_true (by assumption) ?_ | refine rec_false (by assumption) ?_ | refine rec_some hS ?_)
          · rw [decide_eq_false hk2] at hKL hKE hE
            simp only [Bool.false_and, Bool.or_false] at hKL hKE
            cases hA : Str.lt (Str.of ckey) (Str.of dkey) with
            | true =>
              rw [hA] at hKL
              repeat' ((conv => whnf); first | exact hj | refine rec_true (by assumption) ?_ | refine rec_false (by assumption) ?_ | refine rec_some hS ?_)
            | false =>
              rw [hA] at hKL
              repeat' ((conv => whnf); first | exact hj | refine rec_true (by assumption) ?_ | refine rec_false (by assumption) ?_ | refine rec_some hS ?_)
      conv => whnf
      refine ⟨_, _, _, _, _, _, _, _, _, _, _, _, rfl, ?_⟩
      dsimp only
      cases hl : okI (Str.of ikey) inn im ibw ibl ibt (Str.of ian) iw il it (Str.of ival) idel with
      | false =>
        rw [layV, hl]
        conv => whnf
        rw [hD]
        conv => whnf
        refine ⟨_, _, _, _, _, _, _, _, _, _, _, ks, rfl, (by first | exact .inl ⟨rfl, hks⟩ | exact .inr ⟨_, _, _, _, _, rfl, rfl, Nat.le_of_ble_eq_true rfl⟩), ?_⟩
        dsimp only
        cases hn : eqI (knI n m st w l t ks beat pw pl pt) (Int.ofNat 0) with
        | false =>
          have e1 : keepV n m st w l t ks beat pw pl pt = noWr := by unfold keepV; rw [hn]; rfl
          rw [e1]
          conv => whnf
          rw [hD]
          conv => whnf
          conv => whnf
          refine ⟨K, V, rfl, hK, hV, ?_⟩
          conv => whnf
          exact hk _

        | true =>
          have e1 : keepV n m st w l t ks beat pw pl pt = wrAV (Str.of (plB n.toNat m.toNat)) (Str.of (keepB st w l t ks beat pw pl pt)) false := by unfold keepV; rw [hn]; rfl
          rw [e1]
          conv => whnf
          rw [hD]
          conv => whnf
          refine ⟨_, _, rfl, (keep_lens hn).1, (keep_lens hn).2, fun n' m' st' w' l' t' ks' beat' pw' pl' pt' e' hR => ?_⟩
          obtain ⟨rfl, rfl, rfl, rfl, rfl, rfl, rfl, rfl, rfl, rfl, rfl, rfl⟩ := RecP.one (.inl ⟨⟨hn, rfl, rfl⟩, rfl⟩) hR
          refine ⟨fun hz => ?_, fun mv => ?_⟩
          · try subst hz
            conv => whnf
            refine ⟨_, _, _, _, _, _, _, _, _, _, _, _, _, rfl, rfl, .inl ⟨rfl, rfl⟩, (by first | exact .inl ⟨rfl, hks⟩ | exact .inr ⟨_, _, _, _, _, rfl, rfl, Nat.le_of_ble_eq_true rfl⟩), hR.len, ?_⟩
            conv => whnf
            refine ⟨K, V, rfl, hK, hV, ?_⟩
            conv => whnf
            exact hk _

          · dsimp only [pushed]
            conv => whnf
            refine ⟨_, _, _, _, _, _, _, _, _, _, _, _, _, rfl, rfl, .inr ⟨_, _, _, _, _, rfl, rfl, Nat.le_of_ble_eq_true rfl⟩, (by first | exact .inl ⟨rfl, hks⟩ | exact .inr ⟨_, _, _, _, _, rfl, rfl, Nat.le_of_ble_eq_true rfl⟩), hR.len, ?_⟩
            conv => whnf
            refine ⟨K, V, rfl, hK, hV, ?_⟩
            conv => whnf
            exact hk _


      | true =>
        rw [layV, hl]
        conv => whnf
        rw [hD]
        conv => whnf
        refine ⟨_, _, rfl, (lay_lens hl).1, (lay_lens hl).2, fun r e hQ => ?_⟩
        obtain ⟨hr, he⟩ := IntP.one (.inl ⟨_, _, _, _, _, _, _, _, _, _, _, _, hl, rfl, rfl, rfl, rfl⟩) hQ
        subst hr he
        conv => whnf
        refine ⟨_, rfl, ?_⟩
        dsimp only
        rw [liftV, usrI hl]
        conv => whnf
        refine rec_some (neIn _ _ _ _ _ _ _ _ _ _ _ _) ?_
        conv => whnf
        refine rec_false (not_beq _) ?_
        conv => whnf
        refine ⟨_, _, _, _, _, _, _, _, _, _, _, ks, rfl, (by first | exact .inl ⟨rfl, hks⟩ | exact .inr ⟨_, _, _, _, _, rfl, rfl, Nat.le_of_ble_eq_true rfl⟩), ?_⟩
        dsimp only
        cases hn : eqI (knI n m st w l t ks beat pw pl pt) (Int.ofNat 0) with
        | false =>
          have e1 : keepV n m st w l t ks beat pw pl pt = noWr := by unfold keepV; rw [hn]; rfl
          rw [e1]
          conv => whnf
          rw [hD]
          conv => whnf
          conv => whnf
          refine ⟨K, V, rfl, hK, hV, ?_⟩
          conv => whnf
          exact hk _

        | true =>
          have e1 : keepV n m st w l t ks beat pw pl pt = wrAV (Str.of (plB n.toNat m.toNat)) (Str.of (keepB st w l t ks beat pw pl pt)) false := by unfold keepV; rw [hn]; rfl
          rw [e1]
          conv => whnf
          rw [hD]
          conv => whnf
          refine ⟨_, _, rfl, (keep_lens hn).1, (keep_lens hn).2, fun n' m' st' w' l' t' ks' beat' pw' pl' pt' e' hR => ?_⟩
          obtain ⟨rfl, rfl, rfl, rfl, rfl, rfl, rfl, rfl, rfl, rfl, rfl, rfl⟩ := RecP.one (.inl ⟨⟨hn, rfl, rfl⟩, rfl⟩) hR
          refine ⟨fun hz => ?_, fun mv => ?_⟩
          · try subst hz
            conv => whnf
            refine ⟨_, _, _, _, _, _, _, _, _, _, _, _, _, rfl, rfl, .inl ⟨rfl, rfl⟩, (by first | exact .inl ⟨rfl, hks⟩ | exact .inr ⟨_, _, _, _, _, rfl, rfl, Nat.le_of_ble_eq_true rfl⟩), hR.len, ?_⟩
            conv => whnf
            refine ⟨K, V, rfl, hK, hV, ?_⟩
            conv => whnf
            exact hk _

          · dsimp only [pushed]
            conv => whnf
            refine ⟨_, _, _, _, _, _, _, _, _, _, _, _, _, rfl, rfl, .inr ⟨_, _, _, _, _, rfl, rfl, Nat.le_of_ble_eq_true rfl⟩, (by first | exact .inl ⟨rfl, hks⟩ | exact .inr ⟨_, _, _, _, _, rfl, rfl, Nat.le_of_ble_eq_true rfl⟩), hR.len, ?_⟩
            conv => whnf
            refine ⟨K, V, rfl, hK, hV, ?_⟩
            conv => whnf
            exact hk _



    | false =>
      rw [putV, hc]
      conv => whnf
      refine ⟨_, _, _, _, _, _, rfl, ?_⟩
      dsimp only
      obtain ⟨B1, B2, B3, hB⟩ := putV_wr dkey dw dl dt dval ddel
      generalize bad (okC (Str.of dkey) dw dl dt (Str.of dval) ddel) = e
      rw [hB]
      conv => whnf
      rw [hD]
      conv => whnf
      rw [hD]
      conv => whnf
      refine ⟨_, _, _, _, _, _, _, _, _, _, _, _, rfl, ?_⟩
      dsimp only
      cases hl : okI (Str.of ikey) inn im ibw ibl ibt (Str.of ian) iw il it (Str.of ival) idel with
      | false =>
        rw [layV, hl]
        conv => whnf
        rw [hD]
        conv => whnf
        refine ⟨_, _, _, _, _, _, _, _, _, _, _, ks, rfl, (by first | exact .inl ⟨rfl, hks⟩ | exact .inr ⟨_, _, _, _, _, rfl, rfl, Nat.le_of_ble_eq_true rfl⟩), ?_⟩
        dsimp only
        cases hn : eqI (knI n m st w l t ks beat pw pl pt) (Int.ofNat 0) with
        | false =>
          have e1 : keepV n m st w l t ks beat pw pl pt = noWr := by unfold keepV; rw [hn]; rfl
          rw [e1]
          conv => whnf
          rw [hD]
          conv => whnf
          conv => whnf
          refine ⟨K, V, rfl, hK, hV, ?_⟩
          conv => whnf
          exact hk _

        | true =>
          have e1 : keepV n m st w l t ks beat pw pl pt = wrAV (Str.of (plB n.toNat m.toNat)) (Str.of (keepB st w l t ks beat pw pl pt)) false := by unfold keepV; rw [hn]; rfl
          rw [e1]
          conv => whnf
          rw [hD]
          conv => whnf
          refine ⟨_, _, rfl, (keep_lens hn).1, (keep_lens hn).2, fun n' m' st' w' l' t' ks' beat' pw' pl' pt' e' hR => ?_⟩
          obtain ⟨rfl, rfl, rfl, rfl, rfl, rfl, rfl, rfl, rfl, rfl, rfl, rfl⟩ := RecP.one (.inl ⟨⟨hn, rfl, rfl⟩, rfl⟩) hR
          refine ⟨fun hz => ?_, fun mv => ?_⟩
          · try subst hz
            conv => whnf
            refine ⟨_, _, _, _, _, _, _, _, _, _, _, _, _, rfl, rfl, .inl ⟨rfl, rfl⟩, (by first | exact .inl ⟨rfl, hks⟩ | exact .inr ⟨_, _, _, _, _, rfl, rfl, Nat.le_of_ble_eq_true rfl⟩), hR.len, ?_⟩
            conv => whnf
            refine ⟨K, V, rfl, hK, hV, ?_⟩
            conv => whnf
            exact hk _

          · dsimp only [pushed]
            conv => whnf
            refine ⟨_, _, _, _, _, _, _, _, _, _, _, _, _, rfl, rfl, .inr ⟨_, _, _, _, _, rfl, rfl, Nat.le_of_ble_eq_true rfl⟩, (by first | exact .inl ⟨rfl, hks⟩ | exact .inr ⟨_, _, _, _, _, rfl, rfl, Nat.le_of_ble_eq_true rfl⟩), hR.len, ?_⟩
            conv => whnf
            refine ⟨K, V, rfl, hK, hV, ?_⟩
            conv => whnf
            exact hk _


      | true =>
        rw [layV, hl]
        conv => whnf
        rw [hD]
        conv => whnf
        refine ⟨_, _, rfl, (lay_lens hl).1, (lay_lens hl).2, fun r e hQ => ?_⟩
        obtain ⟨hr, he⟩ := IntP.one (.inl ⟨_, _, _, _, _, _, _, _, _, _, _, _, hl, rfl, rfl, rfl, rfl⟩) hQ
        subst hr he
        conv => whnf
        refine ⟨_, rfl, ?_⟩
        dsimp only
        rw [liftV, usrI hl]
        conv => whnf
        refine rec_some (neIn _ _ _ _ _ _ _ _ _ _ _ _) ?_
        conv => whnf
        refine rec_false (not_beq _) ?_
        conv => whnf
        refine ⟨_, _, _, _, _, _, _, _, _, _, _, ks, rfl, (by first | exact .inl ⟨rfl, hks⟩ | exact .inr ⟨_, _, _, _, _, rfl, rfl, Nat.le_of_ble_eq_true rfl⟩), ?_⟩
        dsimp only
        cases hn : eqI (knI n m st w l t ks beat pw pl pt) (Int.ofNat 0) with
        | false =>
          have e1 : keepV n m st w l t ks beat pw pl pt = noWr := by unfold keepV; rw [hn]; rfl
          rw [e1]
          conv => whnf
          rw [hD]
          conv => whnf
          conv => whnf
          refine ⟨K, V, rfl, hK, hV, ?_⟩
          conv => whnf
          exact hk _

        | true =>
          have e1 : keepV n m st w l t ks beat pw pl pt = wrAV (Str.of (plB n.toNat m.toNat)) (Str.of (keepB st w l t ks beat pw pl pt)) false := by unfold keepV; rw [hn]; rfl
          rw [e1]
          conv => whnf
          rw [hD]
          conv => whnf
          refine ⟨_, _, rfl, (keep_lens hn).1, (keep_lens hn).2, fun n' m' st' w' l' t' ks' beat' pw' pl' pt' e' hR => ?_⟩
          obtain ⟨rfl, rfl, rfl, rfl, rfl, rfl, rfl, rfl, rfl, rfl, rfl, rfl⟩ := RecP.one (.inl ⟨⟨hn, rfl, rfl⟩, rfl⟩) hR
          refine ⟨fun hz => ?_, fun mv => ?_⟩
          · try subst hz
            conv => whnf
            refine ⟨_, _, _, _, _, _, _, _, _, _, _, _, _, rfl, rfl, .inl ⟨rfl, rfl⟩, (by first | exact .inl ⟨rfl, hks⟩ | exact .inr ⟨_, _, _, _, _, rfl, rfl, Nat.le_of_ble_eq_true rfl⟩), hR.len, ?_⟩
            conv => whnf
            refine ⟨K, V, rfl, hK, hV, ?_⟩
            conv => whnf
            exact hk _

          · dsimp only [pushed]
            conv => whnf
            refine ⟨_, _, _, _, _, _, _, _, _, _, _, _, _, rfl, rfl, .inr ⟨_, _, _, _, _, rfl, rfl, Nat.le_of_ble_eq_true rfl⟩, (by first | exact .inl ⟨rfl, hks⟩ | exact .inr ⟨_, _, _, _, _, rfl, rfl, Nat.le_of_ble_eq_true rfl⟩), hR.len, ?_⟩
            conv => whnf
            refine ⟨K, V, rfl, hK, hV, ?_⟩
            conv => whnf
            exact hk _



theorem t6 {h0 : H} {v : AV} {ks : List (List UInt8)} (q : KV h0 v ks) {ckey cval : List UInt8} {cw cl ct : Int} {cdel : Bool} {dkey dval : List UInt8} {dw dl dt : Int} {ddel : Bool} {ikey ian ival : List UInt8} {inn im ibw ibl ibt iw il it : Int} {idel : Bool}
    {n m st w l t beat pw pl pt : Int} {K V : List UInt8} (hK : K.length ≤ 140737488351232) (hV : V.length ≤ 140737488351232) {KB : Bool → H → Prop} (hk : ∀ h', KB true h') :
    s6G J0 pPut pLives pCell pLay pKeepL pLift pInt pRec pSame pWh (ceAV (Str.of ckey) cw cl ct (Str.of cval) cdel) (ceAV (Str.of dkey) dw dl dt (Str.of dval) ddel) (inAV (Str.of ikey) inn im ibw ibl ibt (Str.of ian) iw il it (Str.of ival) idel)
      (recAV n m st w l t v beat pw pl pt) (kvAV K V) h0 KB := by
  rw [mkJ_0]
  exact t6D (fun _ _ _ => rfl) q hK hV hk
end Go.Proofs.Ytlbigopkplckaaa
