/- What is read is put as it was, and is one thing alone. No condition. -/
import Derived.Test.YtlbigopkplckaaaBkA
namespace Go.Proofs.Ytlbigopkplckaaa
open Go Go.Am
set_option linter.all false
set_option maxRecDepth 100000
theorem not_beq (s : Str) : Bool.not (Str.beq s s) = false := by rw [beq_self]; rfl
theorem t28 {K V : List UInt8} (hK : K.length ≤ 140737488351232) (hV : V.length ≤ 140737488351232) {KB : Bool → H → Prop} (hk : ∀ h', KB true h') : s28G J0 pPut pCell pLay pKeepL pInt pRec (kvAV K V) H0 KB := by
  conv => whnf
  refine ⟨K, V, rfl, hK, hV, fun r e hP => ?_⟩
  rcases hP with ⟨key, w, l, t, val, del, ho, hKe, hVe, rfl, rfl⟩ | ⟨hn, rfl, rfl⟩
  · subst hKe hVe
    conv => whnf
    refine ⟨key, w, l, t, val, del, rfl, ?_⟩
    dsimp only
    rw [putV, ho]
    conv => whnf
    refine rec_false (not_beq _) ?_
    conv => whnf
    refine rec_false (not_beq _) ?_
    conv => whnf
    refine ⟨_, _, rfl, hK, hV, fun r e hQ => ?_⟩
    rcases hQ with ⟨_, _, _, _, _, _, _, _, _, _, _, _, _, hKe, _⟩ | ⟨_, rfl, rfl⟩
    · injection hKe with h1 _; exact absurd h1 (by decide)
    conv => whnf
    refine ⟨_, _, rfl, hK, hV, fun n m st w l t ks beat pw pl pt e hR => ?_⟩
    rcases hR with ⟨o, rfl⟩ | ⟨_, rfl, rfl, rfl, rfl, rfl, rfl, rfl, rfl, rfl, rfl, rfl, rfl⟩
    · have h1 := o.k
      unfold plB at h1
      injection h1 with h1 _; exact absurd h1 (by decide)
    refine ⟨fun _ => ?_, fun mv => ?_⟩
    · conv => whnf
      exact hk _
    · dsimp only [pushed]
      conv => whnf
      exact hk _
  conv => whnf
  refine ⟨K, V, rfl, hK, hV, fun r e hQ => ?_⟩
  rcases hQ with ⟨key, n, m, bw, bl, bt, anchor, w, l, t, val, del, ho, hKe, hVe, rfl, rfl⟩ | ⟨hn2, rfl, rfl⟩
  · subst hKe hVe
    conv => whnf
    refine ⟨key, n, m, bw, bl, bt, anchor, w, l, t, val, del, rfl, ?_⟩
    dsimp only
    rw [layV, ho]
    conv => whnf
    refine rec_false (not_beq _) ?_
    conv => whnf
    refine rec_false (not_beq _) ?_
    conv => whnf
    refine ⟨_, _, rfl, hK, hV, fun n m st w l t ks beat pw pl pt e hR => ?_⟩
    rcases hR with ⟨o, rfl⟩ | ⟨_, rfl, rfl, rfl, rfl, rfl, rfl, rfl, rfl, rfl, rfl, rfl, rfl⟩
    · have h1 := o.k
      unfold plB at h1
      injection h1 with h1 _; exact absurd h1 (by decide)
    refine ⟨fun _ => ?_, fun mv => ?_⟩
    · conv => whnf
      exact hk _
    · dsimp only [pushed]
      conv => whnf
      exact hk _
  conv => whnf
  refine ⟨K, V, rfl, hK, hV, fun n m st w l t ks beat pw pl pt e hR => ?_⟩
  rcases hR with ⟨o, rfl⟩ | ⟨_, rfl, rfl, rfl, rfl, rfl, rfl, rfl, rfl, rfl, rfl, rfl, rfl⟩
  · have e1 : keepV n m st w l t ks beat pw pl pt = wrAV (Str.of K) (Str.of V) false := by unfold keepV; rw [o.kn, o.k, o.v]; rfl
    have e2 : knI n m st w l t ks beat pw pl pt = Int.ofNat 0 := eqI_true.1 o.kn
    refine ⟨fun hz => ?_, fun mv => ?_⟩
    · subst hz
      conv => whnf
      refine ⟨_, _, _, _, _, _, _, _, _, _, _, [], rfl, .inl ⟨rfl, rfl⟩, ?_⟩
      dsimp only
      rw [e1, e2]
      conv => whnf
      refine rec_false (not_beq _) ?_
      conv => whnf
      refine rec_false (not_beq _) ?_
      conv => whnf
      exact hk _
    · dsimp only [pushed]
      conv => whnf
      refine ⟨_, _, _, _, _, _, _, _, _, _, _, ks, rfl, .inr ⟨_, _, _, _, _, rfl, rfl, Nat.le_of_ble_eq_true rfl⟩, ?_⟩
      dsimp only
      rw [e1, e2]
      conv => whnf
      refine rec_false (not_beq _) ?_
      conv => whnf
      refine rec_false (not_beq _) ?_
      conv => whnf
      exact hk _
  · refine ⟨fun _ => ?_, fun mv => ?_⟩
    · conv => whnf
      exact hk _
    · dsimp only [pushed]
      conv => whnf
      exact hk _
end Go.Proofs.Ytlbigopkplckaaa
