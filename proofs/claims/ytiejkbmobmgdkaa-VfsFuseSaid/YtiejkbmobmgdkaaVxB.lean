/- A heap that changes in some blocks only; rules for blocks that are made and written anew; the file system's object in a heap. No condition. -/
import Derived.Test.YtiejkbmobmgdkaaVxA
namespace Go.Am
open Go
set_option linter.all false
/-- h' is h, but for the blocks of L; bytes stay everywhere -/
structure Only (L : Nat → Prop) (h h' : H) : Prop where
  base : h'.base = h.base
  next : h.next ≤ h'.next
  get : ∀ i, i < h.next → ¬ L i → h'.get i = h.get i
  byt : ∀ i t f g s, h.get i = .bytes t f g s → h'.get i = h.get i
def noL : Nat → Prop := fun _ => False
theorem Only.refl (L : Nat → Prop) (h : H) : Only L h h := ⟨rfl, Nat.le_refl _, fun _ _ _ => rfl, fun _ _ _ _ _ _ => rfl⟩
theorem Only.trans {L : Nat → Prop} {h h1 h2 : H} (a : Only L h h1) {L' : Nat → Prop} (b : Only L' h1 h2) (hl : ∀ i, i < h.next → L' i → L i) : Only L h h2 :=
  ⟨b.base.trans a.base, Nat.le_trans a.next b.next, fun i hi hn => (b.get i (Nat.lt_of_lt_of_le hi a.next) fun c => hn (hl i hi c)).trans (a.get i hi hn), fun i t f g s e => by
    have e1 := a.byt i t f g s e
    exact (b.byt i t f g s (e1.trans e)).trans e1⟩
theorem Only.imp {L L' : Nat → Prop} {h h1 : H} (a : Only L h h1) (hl : ∀ i, i < h.next → L i → L' i) : Only L' h h1 := ⟨a.base, a.next, fun i hi hn => a.get i hi fun c => hn (hl i hi c), a.byt⟩
theorem Only.at {L : Nat → Prop} {h h1 : H} (a : Only L h h1) {i : Nat} {b : Blk} (e : h.get i = b) (hb : b.live = true) (hn : ¬ L i) : h1.get i = b := by
  rw [a.get i (H.lt_of_live (by rw [e]; exact hb)) hn]; exact e
theorem SlB.only {L : Nat → Prop} {h h' : H} {v : AV} {b : List UInt8} (s : SlB h v b) (o : Only L h h') : SlB h' v b := s.same o.byt
theorem push_r {b : Blk} {h : H} {k : Nat → H → Prop} (hk : ∀ h', Only noL h h' → h'.next = h.next + 1 → h'.get h.next = b → k h.next h') : pushK b h k := by
  rw [pushK_is]
  refine hk _ ⟨rfl, Nat.le_succ _, fun i hi _ => by rw [pushed_get, if_neg (by omega)], fun i t f g s e => ?_⟩ rfl (by rw [pushed_get, if_pos rfl])
  have : i < h.next := H.lt_of_live (by rw [e]; rfl)
  rw [pushed_get, if_neg (by omega)]
theorem put_r {i : Nat} {b c : Blk} {h : H} {k : H → Prop} (g : h.get i = c) (hc : c.live = true) (hb : ∀ t f g s, c ≠ .bytes t f g s) (h2 : h.base ≤ i) (hk : ∀ h', Only (· = i) h h' → h'.next = h.next → h'.get i = b → k h') : putK i b h k := by
  have h1 : i < h.next := H.lt_of_live (by rw [g]; exact hc)
  rw [putK_is _ h1 h2]
  refine hk _ ⟨rfl, Nat.le_refl _, fun j hj hn => by rw [putted_get h i b h1, if_neg hn], fun j t f g' s e => ?_⟩ rfl (by rw [putted_get h i b h1, if_pos rfl])
  rw [putted_get h i b h1, if_neg]
  rintro rfl
  rw [g] at e; exact hb _ _ _ _ e
theorem stV_r {i o : Nat} {m : Bool} {t : Nat} {cs cs' : List AV} {x : AV} {h : H} {k : H → Prop} (g : h.get i = .cells m t cs) (h1 : isOne x = true) (e : lputAt o [x] cs = some cs') (hb : h.base ≤ i)
    (hk : ∀ h', Only (· = i) h h' → h'.next = h.next → h'.get i = .cells m t cs' → k h') : stV (.ptr i o) x h k := by
  have hi : i < h.next := H.lt_of_live (by rw [g]; rfl)
  have q : putK i (.cells m t cs') h k := put_r g rfl (by intros; intro c; cases c) hb hk
  rw [stV_at g h1 e hi hb]
  rwa [putK_is _ hi hb] at q
theorem stN_r {i o n : Nat} {m : Bool} {t : Nat} {cs cs' xs : List AV} {h : H} {k : H → Prop} (g : h.get i = .cells m t cs) (h0 : xs.length = n) (h1 : allOnes xs = true) (e : lputAt o xs cs = some cs') (hb : h.base ≤ i)
    (hk : ∀ h', Only (· = i) h h' → h'.next = h.next → h'.get i = .cells m t cs' → k h') : stN n (.ptr i o) xs h k := by
  have hi : i < h.next := H.lt_of_live (by rw [g]; rfl)
  have q : putK i (.cells m t cs') h k := put_r g rfl (by intros; intro c; cases c) hb hk
  rw [stN_at g h0 h1 e hi hb]
  rwa [putK_is _ hi hb] at q
/-! ## steps -/
structure Stp where
  kind : Int
  name : List UInt8
  to : List UInt8
  file : Int
  bytes : List UInt8
def Stp.cells (s : Stp) (v : AV) : List AV := [.int .i64 s.kind, .str (Str.of s.name), .str (Str.of s.to), .int .i64 s.file, v]
def WaitC (h : H) : List Stp → List AV → Prop
  | [], cs => cs = []
  | s :: l, cs => ∃ v cs', cs = s.cells v ++ cs' ∧ SlB h v s.bytes ∧ WaitC h l cs'
theorem WaitC.only {L : Nat → Prop} {h h' : H} (o : Only L h h') : ∀ {l : List Stp} {cs : List AV}, WaitC h l cs → WaitC h' l cs
  | [], _, w => w
  | _ :: _, _, ⟨v, cs', e, hv, w⟩ => ⟨v, cs', e, hv.only o, WaitC.only o w⟩
theorem WaitC.length {h : H} : ∀ {l : List Stp} {cs : List AV}, WaitC h l cs → cs.length = 5 * l.length
  | [], _, w => by rw [show _ = [] from w]; rfl
  | _ :: l, _, ⟨v, cs', e, hv, w⟩ => by rw [e, List.length_append, w.length]; simp [Stp.cells]; omega
theorem WaitC.snoc {h : H} {s : Stp} {v : AV} (hv : SlB h v s.bytes) : ∀ {l : List Stp} {cs : List AV}, WaitC h l cs → WaitC h (l ++ [s]) (cs ++ s.cells v)
  | [], _, w => by rw [show _ = [] from w]; exact ⟨v, [], by simp, hv, rfl⟩
  | _ :: l, _, ⟨u, cs', e, hu, w⟩ => ⟨u, cs' ++ s.cells v, by rw [e, List.append_assoc], hu, w.snoc hv⟩
theorem ltake_app {α : Type} : ∀ (a b : List α), ltake a.length (a ++ b) = some a
  | [], b => by cases b <;> rfl
  | x :: a, b => by
    have e := ltake_app a b
    show (Option.rec none (fun r => some (x :: r)) (ltake a.length (a ++ b)) : Option (List α)) = _
    rw [e]
theorem ldrop_app {α : Type} : ∀ (a b : List α), ldrop a.length (a ++ b) = b
  | [], b => by cases b <;> rfl
  | x :: a, b => by
    show ldrop a.length (a ++ b) = b
    exact ldrop_app a b
theorem WaitC.at {h : H} : ∀ {l : List Stp} {cs : List AV} (_ : WaitC h l cs) {i : Nat} (hi : i < l.length), ∃ v, ltake 5 (ldrop (i * 5) cs) = some (l[i].cells v) ∧ SlB h v l[i].bytes
  | s :: l, _, ⟨v, cs', e, hv, w⟩, 0, _ => ⟨v, by rw [e]; exact ltake_app (s.cells v) cs', hv⟩
  | s :: l, _, ⟨v, cs', e, hv, w⟩, i + 1, hi => by
    obtain ⟨u, h1, h2⟩ := w.at (i := i) (by simpa using hi)
    refine ⟨u, ?_, by simpa using h2⟩
    rw [e, show (i + 1) * 5 = (i * 5) + 5 by omega]
    exact h1
/-- the row of the steps that are pending -/
def WaitAt (h : H) (wr : Option Nat) (v : AV) (l : List Stp) : Prop :=
  (l = [] ∧ v = .nils ∧ wr = none) ∨ (l ≠ [] ∧ ∃ id mv cs, wr = some id ∧ v = .slice id 0 l.length l.length 5 false ∧ h.base ≤ id ∧ h.get id = .cells mv 71 cs ∧ WaitC h l cs)
theorem WaitAt.only {L : Nat → Prop} {h h' : H} {wr : Option Nat} {v : AV} {l : List Stp} (w : WaitAt h wr v l) (o : Only L h h') (hn : ∀ i, wr = some i → ¬ L i) : WaitAt h' wr v l := by
  rcases w with w | ⟨hl, id, mv, cs, h1, h2, h3, h4, h5⟩
  · exact .inl w
  · exact .inr ⟨hl, id, mv, cs, h1, h2, by rw [o.base]; exact h3, o.at h4 rfl (hn id h1), h5.only o⟩
theorem WaitAt.len {h : H} {wr : Option Nat} {v : AV} {l : List Stp} (w : WaitAt h wr v l) (k : Nat → Prop) : lenK v k = k l.length := by
  rcases w with ⟨rfl, rfl, rfl⟩ | ⟨hl, id, mv, cs, h1, rfl, h3, h4, h5⟩ <;> rfl
theorem WaitAt.one {h : H} {wr : Option Nat} {v : AV} {l : List Stp} (w : WaitAt h wr v l) : isOne v = true := by
  rcases w with ⟨rfl, rfl, rfl⟩ | ⟨hl, id, mv, cs, h1, rfl, h3, h4, h5⟩ <;> rfl
theorem ixK5 {id len cap i : Nat} {ex : Bool} {kk : IntKind} (hi : i < len) (k : AV → Prop) : ixK 5 (.slice id 0 len cap 5 ex) (.int kk (Int.ofNat i)) k = k (.ptr id (i * 5)) := by
  unfold ixK
  rw [asSl_slice, asNat_int, (blt_iff i len).2 hi, ck_t]
  show fN (0 + i * 5) _ = _
  rw [fN_eq, Nat.zero_add]
/-- a step of the row is read -/
theorem WaitAt.read {h : H} {wr : Option Nat} {v : AV} {l : List Stp} (w : WaitAt h wr v l) {i : Nat} (hi : i < l.length) {kk : IntKind} {k : AV → List AV → Prop} (hk : ∀ p u, SlB h u l[i].bytes → k p (l[i].cells u)) :
    ixK 5 v (.int kk (Int.ofNat i)) fun p => ldN 5 p h fun cs => k p cs := by
  rcases w with ⟨rfl, rfl, rfl⟩ | ⟨hl, id, mv, cs, h1, rfl, h3, h4, h5⟩
  · simp at hi
  · rw [ixK5 hi]
    obtain ⟨u, e, hu⟩ := h5.at hi
    rw [ldN_at h4 e]
    exact hk _ _ hu
theorem lapp_eq' {α : Type} (a b : List α) : lapp a b = a ++ b := by
  induction a with
  | nil => rfl
  | cons x a ih => show x :: lapp a b = _; rw [ih]; rfl
theorem lappK_is {α : Type} (a b : List α) (k : List α → Prop) : lappK a b k = k (a ++ b) := by
  induction a generalizing k with
  | nil => rfl
  | cons x a ih => exact ih fun r => k (x :: r)
theorem Stp.ones (s : Stp) {v : AV} (hv : isOne v = true) : allOnes (s.cells v) = true := by
  show (Bool.rec _ _ (isOne v)) = true
  rw [hv]
/-- a step behind the row -/
theorem apC_wait {h : H} {wr : Option Nat} {v : AV} {l : List Stp} {s : Stp} {u : AV} {j cap : Nat} {ex : Bool} {k : AV → H → Prop} (w : WaitAt h wr v l) (hj : h.get j = .cells false 71 (s.cells u)) (hu : SlB h u s.bytes)
    (hl : (l.length + 1) * 72 ≤ mostRoom) (hbn : h.base ≤ h.next)
    (hk : ∀ v' h' i, WaitAt h' (some i) v' (l ++ [s]) → Only (fun i => wr = some i) h h' → h.next ≤ i → k v' h') : apC 71 5 72 v (.slice j 0 1 cap 5 ex) h k := by
  unfold apC srcC
  rw [asSl_slice, hj, asRow_cells]
  show op' (some (s.cells u)) _
  rw [op'_some]
  rcases w with ⟨rfl, rfl, rfl⟩ | ⟨hne, id, mv, cs, h1, rfl, h3, h4, h5⟩
  · rw [asSl_nils]
    refine br_intro (fun h0 => by cases h0) fun _ => ck_intro (by decide) ?_
    refine push_r fun h' o hn hg => ?_
    refine hk _ h' h.next (.inr ⟨by simp, h.next, false, s.cells u, rfl, rfl, by rw [o.base]; exact hbn, hg, ?_⟩) (o.imp fun _ _ c => c.elim) (Nat.le_refl _)
    exact ⟨u, [], by simp, hu.only o, rfl⟩
  · have hlen := h5.length
    have hid : id < h.next := H.lt_of_live (by rw [h4]; rfl)
    rw [asSl_slice, h4, asRow_cells, fN_eq]
    refine br_intro (fun h0 => ?_) fun _ => ?_
    · have h0 : l.length + 1 ≤ l.length := (ble_iff _ _).1 h0
      omega
    · refine ck_intro ((ble_iff _ _).2 hl) ?_
      have e : ltake (Nat.mul l.length 5) (ldrop 0 cs) = some cs := by
        have := ltake_app cs []
        rw [List.append_nil, hlen] at this
        show ltake (l.length * 5) cs = _
        rw [show l.length * 5 = 5 * l.length by omega]; exact this
      rw [e, op'_some, lappK_is]
      refine br_intro (fun h0 => by cases h0) fun _ => ck_intro rfl (ck_intro rfl (ck_intro (s.ones hu.one) ?_))
      refine put_r h4 rfl (by intros; intro c; cases c) h3 fun h1' o1 n1 g1 => ?_
      refine push_r fun h2 o2 n2 g2 => ?_
      have o12 : Only (fun i => wr = some i) h h2 := (o1.imp (L' := fun i => wr = some i) fun i _ e => by rw [h1, e]).trans o2 fun _ _ c => c.elim
      rw [show Nat.add l.length 1 = (l ++ [s]).length by simp]
      refine hk _ h2 h1'.next (.inr ⟨by simp, h1'.next, true, _, rfl, rfl, by rw [o12.base, n1]; exact hbn, g2, ?_⟩) o12 (by omega)
      exact (h5.only o12).snoc (hu.only o12)
end Go.Am
