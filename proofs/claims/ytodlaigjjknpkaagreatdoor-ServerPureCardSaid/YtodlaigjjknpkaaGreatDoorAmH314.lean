import Derived.Test.YtodlaigjjknpkaaGreatDoorAmS2
namespace Go.Proofs.YtodlaigjjknpkaaGreatDoor
open Go Go.Am
set_option linter.all false
noncomputable def Qfn : Fun:=fun l h k=>match l with
  | [.ptr b o,n]=>ck (Nat.ble h.base b) (g314 [.ptr b o,n] h fun r h1=>Zp (h1.get b) (fun m t cs=>op' (Zd cs (Nat.succ o)) fun s=>ZL b (.cells m t (XS cs (Nat.succ o) (cutS s))) h1 fun h2=>k r h2) fun _ _ _ _=>False)
  | _=>False
theorem g314'_ok : Qe Tryz.prog 314 Qfn := g314_ok.up0.weak.imp fun l h k q => by
  unfold Qfn at q
  split at q
  · rename_i b o n
    rw [Qz,Qv] at q
    obtain ⟨hb,q⟩:=q
    refine ⟨hb,_,q,fun r h1 q=>?_⟩
    rw [Q3] at q
    rcases q with ⟨m,t,cs,hg,q⟩ | ⟨_,_,_,_,_,q⟩
    · rw [QF] at q
      obtain ⟨s,hs,q⟩:=q
      rw [QZ] at q
      obtain ⟨h2,p2,q⟩:=q
      obtain ⟨_,_,n2,b2,g2⟩:=Q1 p2
      refine ⟨h2,⟨n2,b2,fun id e=>by rw [g2,if_neg e],m,t,cs,_,hg,by rw [g2,if_pos rfl],fun i a' ha=>?_⟩,q⟩
      rw [W0] at ha
      rw [YA] at hs
      by_cases e : Nat.succ o = i
      · subst e
        have hl : Nat.succ o < cs.length:=by
          rw [List.getElem?_eq_some_iff] at hs; exact hs.1
        rw [List.getElem?_set_self hl] at ha
        injection ha with ha
        exact ⟨s,hs,.inr ha.symm⟩
      · rw [List.getElem?_set_ne e] at ha
        exact ⟨a',ha,.inl rfl⟩
    · exact q.elim
  · exact q.elim
end Go.Proofs.YtodlaigjjknpkaaGreatDoor
