/- What is asked of the rest may be weakened: each piece in continuation style is monotone. -/
import Derived.Test.YtdaibgpceldbdaaGreatDoorAmIt
namespace Go.Am
open Go
theorem fN_mono {n : Nat} {k k' : Nat → Prop} (hk : ∀ x, k x → k' x) : fN n k → fN n k' := by rw [fN_eq, fN_eq]; exact hk _
theorem fI_mono {n : Int} {k k' : Int → Prop} (hk : ∀ x, k x → k' x) : fI n k → fI n k' := by rw [fI_eq, fI_eq]; exact hk _
theorem fB_mono {n : Bool} {k k' : Bool → Prop} (hk : ∀ x, k x → k' x) : fB n k → fB n k' := by rw [fB_eq, fB_eq]; exact hk _
theorem fS_mono {n : Str} {k k' : Str → Prop} (hk : ∀ x, k x → k' x) : fS n k → fS n k' := by rw [fS_eq, fS_eq]; exact hk _
theorem br_mono {c : Bool} {p p' q q' : Prop} (h1 : p → p') (h2 : q → q') : br c p q → br c p' q' := by
  rw [br_iff, br_iff]; rintro (⟨a, b⟩ | ⟨a, b⟩); exact .inl ⟨a, h1 b⟩; exact .inr ⟨a, h2 b⟩
theorem ck_mono {c : Bool} {p p' : Prop} (h1 : p → p') : ck c p → ck c p' := by rw [ck_iff, ck_iff]; exact fun h => ⟨h.1, h1 h.2⟩
theorem op_mono {α : Type} {o : Option α} {k k' : α → Prop} (hk : ∀ x, k x → k' x) : op' o k → op' o k' := by
  rw [op'_iff, op'_iff]; rintro ⟨a, b, c⟩; exact ⟨a, b, hk _ c⟩
theorem asI_mono {kk : IntKind} {v : AV} {k k' : Int → Prop} (hk : ∀ x, k x → k' x) : asI kk v k → asI kk v k' := by
  rw [asI_iff, asI_iff]; rintro ⟨a, b, c⟩; exact ⟨a, b, hk _ c⟩
theorem asB_mono {v : AV} {k k' : Bool → Prop} (hk : ∀ x, k x → k' x) : asB v k → asB v k' := by
  rw [asB_iff, asB_iff]; rintro ⟨a, b, c⟩; exact ⟨a, b, hk _ c⟩
theorem asS_mono {v : AV} {k k' : Str → Prop} (hk : ∀ x, k x → k' x) : asS v k → asS v k' := by
  rw [asS_iff, asS_iff]; rintro ⟨a, b, c⟩; exact ⟨a, b, hk _ c⟩
theorem asAgg_mono {v : AV} {k k' : List AV → Prop} (hk : ∀ x, k x → k' x) : Go.Am.asAgg v k → Go.Am.asAgg v k' := by
  rw [asAgg_iff, asAgg_iff]; rintro ⟨a, b, c⟩; exact ⟨a, b, hk _ c⟩
theorem asTup_mono {v : AV} {k k' : List AV → Prop} (hk : ∀ x, k x → k' x) : Go.Am.asTup v k → Go.Am.asTup v k' := by
  rw [asTup_iff, asTup_iff]; rintro ⟨a, b, c⟩; exact ⟨a, b, hk _ c⟩
theorem asNat_mono {v : AV} {k k' : Nat → Prop} (hk : ∀ x, k x → k' x) : asNat v k → asNat v k' := by
  rw [asNat_iff, asNat_iff]; rintro ⟨a, b, c, d⟩; exact ⟨a, b, c, hk _ d⟩
theorem asPtr_mono {v : AV} {k k' : Nat → Nat → Prop} (hk : ∀ x y, k x y → k' x y) : asPtr v k → asPtr v k' := by
  rw [asPtr_iff, asPtr_iff]; rintro ⟨a, b, c, d⟩; exact ⟨a, b, c, hk _ _ d⟩
theorem asSl_mono {v : AV} {n n' : Prop} {k k' : Nat → Nat → Nat → Nat → Nat → Bool → Prop} (hn : n → n') (hk : ∀ a b c d e f, k a b c d e f → k' a b c d e f) : asSl v n k → asSl v n' k' := by
  rw [asSl_iff, asSl_iff]
  rintro (⟨a, b⟩ | ⟨a, b, c, d, e, f, g, q⟩)
  · exact .inl ⟨a, hn b⟩
  · exact .inr ⟨a, b, c, d, e, f, g, hk _ _ _ _ _ _ q⟩
theorem asRow'_mono {b : Blk} {k1 k1' : Bool → Nat → List AV → Prop} {k2 k2' : Nat → Nat → Bool → Str → Prop} (h1 : ∀ m t cs, k1 m t cs → k1' m t cs) (h2 : ∀ t f g s, k2 t f g s → k2' t f g s) : asRow' b k1 k2 → asRow' b k1' k2' := by
  rw [asRow'_iff, asRow'_iff]
  rintro (⟨a, b, c, d, q⟩ | ⟨a, b, c, d, e, q⟩)
  · exact .inl ⟨a, b, c, d, h1 _ _ _ q⟩
  · exact .inr ⟨a, b, c, d, e, h2 _ _ _ _ q⟩
theorem okNil_mono {v : AV} {p p' : Prop} (hp : p → p') : okNil v p → okNil v p' := fun h => by
  cases v <;> first | exact h.elim | exact hp h | skip
  rename_i fn _ _
  cases fn <;> first | exact h.elim | exact hp h
theorem nilB_mono {c : Nat} {v : AV} {k k' : Bool → Prop} (hk : ∀ b, k b → k' b) : nilB c v k → nilB c v k' := br_mono (hk _) (ck_mono (hk _))
theorem pickB_mono {c a b : AV} {k k' : Bool → Prop} (hk : ∀ b, k b → k' b) : pickB c a b k → pickB c a b k' := asB_mono fun _ => br_mono (asB_mono hk) (asB_mono hk)
theorem pickI_mono {kk : IntKind} {c a b : AV} {k k' : Int → Prop} (hk : ∀ b, k b → k' b) : pickI kk c a b k → pickI kk c a b k' := asB_mono fun _ => br_mono (asI_mono hk) (asI_mono hk)
theorem pickS_mono {c a b : AV} {k k' : Str → Prop} (hk : ∀ b, k b → k' b) : pickS c a b k → pickS c a b k' := asB_mono fun _ => br_mono (asS_mono hk) (asS_mono hk)
theorem pickV_mono {c a b : AV} {k k' : AV → Prop} (hk : ∀ b, k b → k' b) : pickV c a b k → pickV c a b k' := asB_mono fun _ => br_mono (hk _) (hk _)
theorem obK_mono {o : Option AV} {k k' : Bool → Prop} (hk : ∀ b, k b → k' b) : obK o k → obK o k' := op_mono fun _ => asB_mono hk
theorem pushK_mono {b : Blk} {h : H} {k k' : Nat → H → Prop} (hk : ∀ n h, k n h → k' n h) : pushK b h k → pushK b h k' := by
  rw [pushK_eq, pushK_eq]; exact hk _ _
theorem putK_mono {i : Nat} {b : Blk} {h : H} {k k' : H → Prop} (hk : ∀ h, k h → k' h) : putK i b h k → putK i b h k' := by
  rw [putK_iff, putK_iff]; rintro ⟨a, b, c⟩; exact ⟨a, b, hk _ c⟩
theorem faK_mono {off : Nat} {p : AV} {k k' : AV → Prop} (hk : ∀ v, k v → k' v) : faK off p k → faK off p k' := asPtr_mono fun _ _ => fN_mono fun _ => hk _
theorem ixK_mono {size : Nat} {s i : AV} {k k' : AV → Prop} (hk : ∀ v, k v → k' v) : ixK size s i k → ixK size s i k' := asSl_mono (fun h => h) fun _ _ _ _ _ _ => asNat_mono fun _ => ck_mono (fN_mono fun _ => hk _)
theorem ixsK_mono {s i : AV} {k k' : Int → Prop} (hk : ∀ v, k v → k' v) : ixsK s i k → ixsK s i k' := asS_mono fun _ => asNat_mono fun _ => ck_mono (fN_mono fun _ => hk _)
theorem bndK_mono {d : Nat} {x : Option AV} {k k' : Nat → Prop} (hk : ∀ v, k v → k' v) : bndK d x k → bndK d x k' := by
  cases x with
  | none => exact hk _
  | some v => exact asNat_mono hk
theorem slK_mono {size : Nat} {v : AV} {lo hi : Option AV} {k k' : AV → Prop} (hk : ∀ v, k v → k' v) : slK size v lo hi k → slK size v lo hi k' :=
  asSl_mono (bndK_mono fun _ => bndK_mono fun _ => ck_mono (ck_mono (hk _))) fun _ _ _ _ _ _ => bndK_mono fun _ => bndK_mono fun _ => ck_mono (ck_mono (ck_mono (br_mono (fN_mono fun _ => hk _) (fN_mono fun _ => fN_mono fun _ => fN_mono fun _ => hk _))))
theorem ldV_mono {p : AV} {h : H} {k k' : AV → Prop} (hk : ∀ v, k v → k' v) : ldV p h k → ldV p h k' := asPtr_mono fun _ _ => asRow'_mono (fun _ _ _ => op_mono hk) fun _ _ _ _ => ck_mono (fN_mono fun _ => hk _)
theorem ldB_mono {p : AV} {h : H} {k k' : Bool → Prop} (hk : ∀ v, k v → k' v) : ldB p h k → ldB p h k' := ldV_mono fun _ => asB_mono hk
theorem ldI_mono {kk : IntKind} {p : AV} {h : H} {k k' : Int → Prop} (hk : ∀ v, k v → k' v) : ldI kk p h k → ldI kk p h k' := ldV_mono fun _ => asI_mono hk
theorem ldS_mono {p : AV} {h : H} {k k' : Str → Prop} (hk : ∀ v, k v → k' v) : ldS p h k → ldS p h k' := ldV_mono fun _ => asS_mono hk
theorem ldN_mono {n : Nat} {p : AV} {h : H} {k k' : List AV → Prop} (hk : ∀ v, k v → k' v) : ldN n p h k → ldN n p h k' := asPtr_mono fun _ _ => asRow'_mono (fun _ _ _ => op_mono hk) fun _ _ _ _ h => h
theorem stV_mono {p x : AV} {h : H} {k k' : H → Prop} (hk : ∀ h, k h → k' h) : stV p x h k → stV p x h k' :=
  asPtr_mono fun _ _ => asRow'_mono (fun _ _ _ => ck_mono (op_mono fun _ => putK_mono hk)) fun _ _ _ _ => asNat_mono fun _ => ck_mono (ck_mono (ck_mono (fS_mono fun _ => asI_mono fun _ => putK_mono hk)))
theorem stN_mono {n : Nat} {p : AV} {xs : List AV} {h : H} {k k' : H → Prop} (hk : ∀ h, k h → k' h) : stN n p xs h k → stN n p xs h k' :=
  asPtr_mono fun _ _ => asRow'_mono (fun _ _ _ => ck_mono (ck_mono (op_mono fun _ => putK_mono hk))) fun _ _ _ _ h => h
theorem lenK_mono {v : AV} {k k' : Nat → Prop} (hk : ∀ n, k n → k' n) : lenK v k → lenK v k' := asSl_mono (hk _) fun _ _ _ _ _ _ => hk _
theorem leaveK_mono {G : Gam} (hd : ∀ f as h k k', (∀ r h, k r h → k' r h) → G.dfn f as h k → G.dfn f as h k') : ∀ {ds : List Dfr} {h : H} {k k' : H → Prop}, (∀ h, k h → k' h) → leaveK G ds h k → leaveK G ds h k'
  | [], h, k, k', hk => hk h
  | .coll id :: ds, h, k, k', hk => fun q => by
    unfold leaveK at q ⊢
    split at q
    · exact putK_mono (fun h => leaveK_mono hd hk) q
    · exact q.elim
  | .call f as cs :: ds, h, k, k', hk => hd _ _ _ _ _ fun _ _ => leaveK_mono hd hk
theorem leave_gam {J : Joins} {l : List (Nat × Fun)} {ds : List Dfr} {h : H} {k k' : H → Prop} (hk : ∀ h, k h → k' h) : leaveK (gam J l) ds h k → leaveK (gam J l) ds h k' := leaveK_mono (fun _ _ _ _ _ _ q => q) hk
theorem jn_mono {j j' : AV → H → Prop} {b b' : (AV → H → Prop) → Prop} (hj : ∀ v h, j v h → j' v h) (hb : ∀ j j', (∀ v h, j v h → j' v h) → b j → b' j') : J0.jn j b → J0.jn j' b' := hb _ _ hj
theorem jb_mono {j j' : Bool → AV → Prop} {b b' : (Bool → AV → Prop) → Prop} (hj : ∀ v h, j v h → j' v h) (hb : ∀ j j', (∀ v h, j v h → j' v h) → b j → b' j') : J0.jb j b → J0.jb j' b' := hb _ _ hj
theorem jd_mono {α : Type} {j j' : α → List Dfr → H → Prop} {b b' : (α → List Dfr → H → Prop) → Prop} (hj : ∀ v d h, j v d h → j' v d h) (hb : ∀ j j', (∀ v d h, j v d h → j' v d h) → b j → b' j') : J0.jd j b → J0.jd j' b' := hb _ _ hj
theorem loopN_mono {α : Type} {b b' : (α → List Dfr → H → Prop) → α → List Dfr → H → Prop} (hb : ∀ s s' : α → List Dfr → H → Prop, (∀ v d h, s v d h → s' v d h) → ∀ v d h, b s v d h → b' s' v d h) : ∀ (n : Nat) (v : α) (d : List Dfr) (h : H), loopN b n v d h → loopN b' n v d h
  | 0, _, _, _ => fun h => h
  | n + 1, v, d, h => hb _ _ (loopN_mono hb n) v d h
theorem lp_mono {α : Type} {b b' : (α → List Dfr → H → Prop) → α → List Dfr → H → Prop} {v : α} {d : List Dfr} {h : H} (hb : ∀ s s' : α → List Dfr → H → Prop, (∀ v d h, s v d h → s' v d h) → ∀ v d h, b s v d h → b' s' v d h) : J0.lp b v d h → J0.lp b' v d h := by
  rw [J0.lp_ok, J0.lp_ok]; exact loopN_mono hb _ _ _ _
end Go.Am
