/- (*strings.Builder).Grow: behind it of the buffer's capacity no more is told than its length. -/
import Derived.Test.YtcohflkjinpcpaaGreatDoorAmS1
namespace Go.Proofs.YtcohflkjinpcpaaGreatDoor
open Go Go.Am
set_option linter.all false
noncomputable def g56' : Fun := fun l h k => match l with
  | [.ptr b o, n] => ck (Nat.ble h.base b) (g56 [.ptr b o, n] h fun r h1 => asRow' (h1.get b) (fun m t cs => op' (lgetO cs (Nat.succ o)) fun s => putK b (.cells m t (lset cs (Nat.succ o) (cutS s))) h1 fun h2 => k r h2) fun _ _ _ _ => False)
  | _ => False
theorem g56'_ok : FunOk Tryz.prog 56 g56' := g56_ok.up0.weak.imp fun l h k q => by
  unfold g56' at q
  split at q
  · rename_i b o n
    rw [ck_iff, ble_iff] at q
    obtain ⟨hb, q⟩ := q
    refine ⟨hb, _, q, fun r h1 q => ?_⟩
    rw [asRow'_iff] at q
    rcases q with ⟨m, t, cs, hg, q⟩ | ⟨_, _, _, _, _, q⟩
    · rw [op'_iff] at q
      obtain ⟨s, hs, q⟩ := q
      rw [putK_iff] at q
      obtain ⟨h2, p2, q⟩ := q
      obtain ⟨_, _, n2, b2, g2⟩ := hput_get p2
      refine ⟨h2, ⟨n2, b2, fun id e => by rw [g2, if_neg e], m, t, cs, _, hg, by rw [g2, if_pos rfl], fun i a' ha => ?_⟩, q⟩
      rw [lset_eq] at ha
      rw [lgetO_eq] at hs
      by_cases e : Nat.succ o = i
      · subst e
        have hl : Nat.succ o < cs.length := by
          rw [List.getElem?_eq_some_iff] at hs; exact hs.1
        rw [List.getElem?_set_self hl] at ha
        injection ha with ha
        exact ⟨s, hs, .inr ha.symm⟩
      · rw [List.getElem?_set_ne e] at ha
        exact ⟨a', ha, .inl rfl⟩
    · exact q.elim
  · exact q.elim
end Go.Proofs.YtcohflkjinpcpaaGreatDoor
