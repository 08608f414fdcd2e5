/- The law MvccCalls, told: over every cell, intent, record and key it answers true. No condition. -/
import Derived.Test.YtlbigopkplckaaaSpQ
namespace Go.Proofs.Ytlbigopkplckaaa
open Go Go.Am
set_option linter.all false
set_option maxRecDepth 100000
theorem eqI_self (x : Int) : eqI x x = true := eqI_true.2 rfl
theorem not_eqI_self (x : Int) : Bool.not (eqI x x) = false := by rw [eqI_self]; rfl
theorem beq_self (s : Str) : Str.beq s s = true := by
  show (Bool.rec false (Nat.beq s.val s.val) (Nat.beq s.len s.len) : Bool) = true
  rw [(Nat.beq_eq ▸ rfl : Nat.beq s.len s.len = true), (Nat.beq_eq ▸ rfl : Nat.beq s.val s.val = true)]
theorem eqWr (a b : Str) (d : Bool) : aBin ty .eql 23 false (wrAV a b d) (wrAV a b d) = some (.bool true) := by
  have : aBin ty .eql 23 false (wrAV a b d) (wrAV a b d) = Option.map AV.bool (match some (Str.beq a a) with | some true => (match some (Str.beq b b) with | some true => (match some (Bool.rec (Bool.not d) d d : Bool) with | some true => some true | some false => some false | none => none) | some false => some false | none => none) | some false => some false | none => none) := rfl
  rw [this, beq_self, beq_self]; cases d <;> rfl
theorem neWr (a b : Str) (d : Bool) : aBin ty .neq 23 false (wrAV a b d) (wrAV a b d) = some (.bool false) := by
  have : aBin ty .neq 23 false (wrAV a b d) (wrAV a b d) = Option.map (fun b => AV.bool (Bool.not b)) (match some (Str.beq a a) with | some true => (match some (Str.beq b b) with | some true => (match some (Bool.rec (Bool.not d) d d : Bool) with | some true => some true | some false => some false | none => none) | some false => some false | none => none) | some false => some false | none => none) := rfl
  rw [this, beq_self, beq_self]; cases d <;> rfl
theorem sub_hK {tt : Nat} {ks : List (List UInt8)} {h : H} (hb : h.base = 1) (hg : h.get 0 = .cells true tt (kcells ks)) : Sub (hK tt ks) h := ⟨rfl, by rw [hb]; exact Nat.le_refl 1, fun id hid => by
  obtain rfl : id = 0 := by have : id < 1 := hid; omega
  exact hg.symm⟩
theorem t4 {h0 : H} {v : AV} {ks : List (List UInt8)} (q : KV h0 v ks) {ckey cval : List UInt8} {cw cl ct : Int} {cdel : Bool} {ikey ian ival : List UInt8} {inn im ibw ibl ibt iw il it : Int} {idel : Bool}
    {n m st w l t beat pw pl pt : Int} {key : List UInt8} {K : Bool → H → Prop} (hk : ∀ h', K true h') :
    s4G J0 pPut pLives pChC pPut pLay pLay pChC pChI pChI pKeep pKeep pLift pLift (ceAV (Str.of ckey) cw cl ct (Str.of cval) cdel) (inAV (Str.of ikey) inn im ibw ibl ibt (Str.of ian) iw il it (Str.of ival) idel)
      (recAV n m st w l t v beat pw pl pt) (Str.of key) h0 K := by
  obtain ⟨pa, pb, pd, hp⟩ := putV_wr ckey cw cl ct cval cdel
  obtain ⟨la, lb, ld, hl⟩ := layV_wr ikey inn im ibw ibl ibt ian iw il it ival idel
  obtain ⟨ka, kb, kd, hkp⟩ := keepV_wr n m st w l t ks beat pw pl pt
  obtain ⟨fa, fb, fd, hf⟩ := liftV_wr key
  have q' := q
  rcases q with ⟨rfl, rfl, rfl⟩ | ⟨tt, c, ex, rfl, rfl⟩
  · repeat' ((conv => whnf); first
      | exact hk _
      | (refine ⟨_, _, _, _, _, _, rfl, ?_⟩; rw [hp])
      | refine ⟨_, _, _, _, _, _, rfl, ?_⟩
      | (refine ⟨_, _, _, _, _, _, _, _, _, _, _, _, rfl, ?_⟩; rw [hl])
      | refine ⟨_, _, _, _, _, _, _, _, _, _, _, _, rfl, ?_⟩
      | (refine ⟨_, _, _, _, _, _, _, _, _, _, _, H0, [], rfl, q', Sub.empty _, ?_⟩; rw [hkp])
      | (refine ⟨_, rfl, ?_⟩; rw [hf])
      | refine rec_some (neWr _ _ _) ?_
      | refine rec_some (eqWr _ _ _) ?_
      | refine rec_false (not_eqI_self _) ?_
      | refine rec_true (eqI_self _) ?_
      | refine rec_true (show readsSo _ _ = true from reads_self rfl (by simp [AV.same, AV.same.sames])) ?_)
  · repeat' ((conv => whnf); first
      | exact hk _
      | (refine ⟨_, _, _, _, _, _, rfl, ?_⟩; rw [hp])
      | refine ⟨_, _, _, _, _, _, rfl, ?_⟩
      | (refine ⟨_, _, _, _, _, _, _, _, _, _, _, _, rfl, ?_⟩; rw [hl])
      | refine ⟨_, _, _, _, _, _, _, _, _, _, _, _, rfl, ?_⟩
      | (refine ⟨_, _, _, _, _, _, _, _, _, _, _, hK tt ks, ks, rfl, q', sub_hK rfl rfl, ?_⟩; rw [hkp])
      | (refine ⟨_, rfl, ?_⟩; rw [hf])
      | refine rec_some (neWr _ _ _) ?_
      | refine rec_some (eqWr _ _ _) ?_
      | refine rec_false (not_eqI_self _) ?_
      | refine rec_true (eqI_self _) ?_
      | refine rec_true (show readsSo _ _ = true from reads_self rfl (by simp [AV.same, AV.same.sames])) ?_)
end Go.Proofs.Ytlbigopkplckaaa
