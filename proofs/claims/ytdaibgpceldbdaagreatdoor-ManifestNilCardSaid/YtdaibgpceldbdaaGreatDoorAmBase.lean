/- The abstract values and the abstract heap of the functional semantics, and how they stand to the model's. -/
import Derived.Test.YtdaibgpceldbdaaGreatDoorAmStr
import Derived.Calls
import Derived.Orders
namespace Go.Am
open Go

inductive AV where
  | junk
  | bool (b : Bool)
  | int (k : IntKind) (n : Int)
  | str (s : Str)
  | nilp
  | ptr (id off : Nat)
  | nils
  | slice (id off len cap es : Nat) (exact : Bool)
  | nilm
  | map (id : Nat)
  | func (fn : Fn) (first captured : List AV)
  | nilf
  | iface (t : Nat) (v : AV)
  | nili
  | agg (cs : List AV)
  | tuple (vs : List AV)
  /-- the 'yield' of a range over a function, whose record is block 'id' -/
  | yield (id : Nat)
  deriving Inhabited

/-- A block: 'cells' holds a row of cells ('mv' false: it begins where the concrete block begins); 'bytes' holds a row of bytes as one text ('fz': so many leading ones may not be written; 'sg': it was made of a string); a map's entries with their stamps ('amap': as they stand; 'smap': in an order of our own, without stamps); an iterator over a map; the record of a range over a function, and its block for deferred calls. -/
inductive Blk where
  | dead
  | cells (mv : Bool) (t : Nat) (cs : List AV)
  | bytes (t : Nat) (fz : Nat) (sg : Bool) (s : Str)
  | amap (es : List (AV × AV × Nat)) (clock : Nat)
  | smap (es : List (AV × AV))
  | miter (mid : Option Nat) (since : Nat) (seen : List Nat) (last : Nat)
  | loop (st : LoopState) (pend : Option Code) (ps : List Nat) (assign body : Code) (env : List AV)
  | defd (fresh : Bool)
  deriving Inhabited

def Blk.live : Blk → Bool
  | .dead => false
  | _ => true

/-! ## lists, by their recursors -/
noncomputable def lget {α : Type} (d : α) (l : List α) : Nat → α :=
  List.rec (motive := fun _ => Nat → α) (fun _ => d) (fun a _ ih i => Nat.rec (motive := fun _ => α) a (fun j _ => ih j) i) l
noncomputable def lset {α : Type} (l : List α) : Nat → α → List α :=
  List.rec (motive := fun _ => Nat → α → List α) (fun _ _ => []) (fun a t ih i v => Nat.rec (motive := fun _ => List α) (v :: t) (fun j _ => a :: ih j v) i) l
theorem lget_eq {α : Type} (d : α) : ∀ (l : List α) (i : Nat), lget d l i = l.getD i d
  | [], _ => rfl
  | _ :: _, 0 => rfl
  | _ :: t, i + 1 => by
    show lget d t i = _
    rw [lget_eq d t i]; simp
theorem lset_eq {α : Type} : ∀ (l : List α) (i : Nat) (v : α), lset l i v = l.set i v
  | [], _, _ => rfl
  | _ :: _, 0, _ => rfl
  | a :: t, i + 1, v => by
    show a :: lset t i v = _
    rw [lset_eq t i v]; rfl

/-! ## the heap: a tree by a number's bits -/
inductive Tr where
  | lf
  | nd (v : Blk) (l r : Tr)
noncomputable def Tr.get : Tr → Nat → Blk := @Tr.rec (fun _ => Nat → Blk) (fun _ => .dead)
  (fun v _ _ gl gr k => Nat.rec (motive := fun _ => Blk) v (fun k' _ => Nat.rec (motive := fun _ => Blk) (gl (Nat.div k' 2)) (fun _ _ => gr (Nat.div k' 2)) (Nat.mod k' 2)) k)
/-- a path to place k, in a tree that holds nothing; f: at least k -/
noncomputable def Tr.sing (b : Blk) (f : Nat) : Nat → Tr := Nat.rec (motive := fun _ => Nat → Tr) (fun _ => .nd b .lf .lf)
  (fun _ ih k => Nat.rec (motive := fun _ => Tr) (.nd b .lf .lf) (fun k' _ => Nat.rec (motive := fun _ => Tr) (.nd .dead (ih (Nat.div k' 2)) .lf) (fun _ _ => .nd .dead .lf (ih (Nat.div k' 2))) (Nat.mod k' 2)) k) f
noncomputable def Tr.set : Tr → Nat → Blk → Tr := @Tr.rec (fun _ => Nat → Blk → Tr) (fun k b => Tr.sing b k k)
  (fun v l r sl sr k b => Nat.rec (motive := fun _ => Tr) (.nd b l r) (fun k' _ => Nat.rec (motive := fun _ => Tr) (.nd v (sl (Nat.div k' 2) b) r) (fun _ _ => .nd v l (sr (Nat.div k' 2) b)) (Nat.mod k' 2)) k)
/-- 'set', each step reckoned at once -/
noncomputable def Tr.setK : Tr → Nat → Blk → (Tr → Prop) → Prop := @Tr.rec (fun _ => Nat → Blk → (Tr → Prop) → Prop) (fun k b c => c (Tr.sing b k k))
  (fun v l r sl sr k b c => Nat.rec (motive := fun _ => Prop) (c (.nd b l r)) (fun k' _ => Nat.rec (motive := fun _ => Prop) (sl (Nat.div k' 2) b fun l' => c (.nd v l' r)) (fun _ _ => sr (Nat.div k' 2) b fun r' => c (.nd v l r')) (Nat.mod k' 2)) k)
theorem Tr.get_lf (k : Nat) : Tr.get .lf k = .dead := rfl
theorem Tr.get_nd_zero (v : Blk) (l r : Tr) : Tr.get (.nd v l r) 0 = v := rfl
theorem Tr.get_nd_succ (v : Blk) (l r : Tr) (k : Nat) : Tr.get (.nd v l r) (k + 1) = if k % 2 = 0 then Tr.get l (k / 2) else Tr.get r (k / 2) := by
  show (Nat.rec (motive := fun _ => Blk) (Tr.get l (k / 2)) (fun _ _ => Tr.get r (k / 2)) (k % 2)) = _
  cases h : k % 2 with
  | zero => rfl
  | succ n => rw [if_neg (by omega)]
theorem Tr.set_nd_succ (v : Blk) (l r : Tr) (k : Nat) (b : Blk) : Tr.set (.nd v l r) (k + 1) b = if k % 2 = 0 then .nd v (Tr.set l (k / 2) b) r else .nd v l (Tr.set r (k / 2) b) := by
  show (Nat.rec (motive := fun _ => Tr) (.nd v (Tr.set l (k / 2) b) r) (fun _ _ => .nd v l (Tr.set r (k / 2) b)) (k % 2)) = _
  cases h : k % 2 with
  | zero => rfl
  | succ n => rw [if_neg (by omega)]
theorem Tr.sing_succ (b : Blk) (f k : Nat) : Tr.sing b (f + 1) (k + 1) = if k % 2 = 0 then .nd .dead (Tr.sing b f (k / 2)) .lf else .nd .dead .lf (Tr.sing b f (k / 2)) := by
  show (Nat.rec (motive := fun _ => Tr) (.nd .dead (Tr.sing b f (k / 2)) .lf) (fun _ _ => .nd .dead .lf (Tr.sing b f (k / 2))) (k % 2)) = _
  cases h : k % 2 with
  | zero => rfl
  | succ n => rw [if_neg (by omega)]
theorem Tr.get_sing (b : Blk) : ∀ (f k j : Nat), k ≤ f → Tr.get (Tr.sing b f k) j = if j = k then b else .dead
  | 0, k, j, h => by
    have : k = 0 := by omega
    subst this
    show Tr.get (.nd b .lf .lf) j = _
    cases j with
    | zero => rfl
    | succ j => rw [Tr.get_nd_succ, Tr.get_lf]; simp
  | f + 1, 0, j, _ => by
    show Tr.get (.nd b .lf .lf) j = _
    cases j with
    | zero => rfl
    | succ j => rw [Tr.get_nd_succ, Tr.get_lf]; simp
  | f + 1, k + 1, j, h => by
    rw [Tr.sing_succ]
    have ih := fun j => Tr.get_sing b f (k / 2) j (by omega)
    split
    · cases j with
      | zero => rw [Tr.get_nd_zero]; simp
      | succ j =>
        rw [Tr.get_nd_succ, ih, Tr.get_lf]
        by_cases e : j = k
        · subst e; rw [if_pos (by assumption)]; simp
        · rw [if_neg (by omega : ¬ (j + 1 = k + 1))]; split
          · rw [if_neg (by omega)]
          · rfl
    · cases j with
      | zero => rw [Tr.get_nd_zero]; simp
      | succ j =>
        rw [Tr.get_nd_succ, ih, Tr.get_lf]
        by_cases e : j = k
        · subst e; rw [if_neg (by assumption)]; simp
        · rw [if_neg (by omega : ¬ (j + 1 = k + 1))]; split
          · rfl
          · rw [if_neg (by omega)]
theorem Tr.get_set : ∀ (t : Tr) (k j : Nat) (b : Blk), Tr.get (Tr.set t k b) j = if j = k then b else Tr.get t j
  | .lf, k, j, b => by
    show Tr.get (Tr.sing b k k) j = _
    rw [Tr.get_sing b k k j (Nat.le_refl _), Tr.get_lf]
  | .nd v l r, 0, j, b => by
    show Tr.get (.nd b l r) j = _
    cases j with
    | zero => rfl
    | succ j => rw [Tr.get_nd_succ, Tr.get_nd_succ]; simp
  | .nd v l r, k + 1, j, b => by
    rw [Tr.set_nd_succ]
    have il := fun j => Tr.get_set l (k / 2) j b
    have ir := fun j => Tr.get_set r (k / 2) j b
    split
    · cases j with
      | zero => rw [Tr.get_nd_zero, Tr.get_nd_zero]; simp
      | succ j =>
        rw [Tr.get_nd_succ, Tr.get_nd_succ, il]
        by_cases e : j = k
        · subst e; rw [if_pos (by assumption)]; simp
        · rw [if_neg (by omega : ¬ (j + 1 = k + 1))]; split
          · rw [if_neg (by omega)]
          · rfl
    · cases j with
      | zero => rw [Tr.get_nd_zero, Tr.get_nd_zero]; simp
      | succ j =>
        rw [Tr.get_nd_succ, Tr.get_nd_succ, ir]
        by_cases e : j = k
        · subst e; rw [if_neg (by assumption)]; simp
        · rw [if_neg (by omega : ¬ (j + 1 = k + 1))]; split
          · rfl
          · rw [if_neg (by omega)]
theorem Tr.setK_eq : ∀ (t : Tr) (k : Nat) (b : Blk) (c : Tr → Prop), Tr.setK t k b c = c (Tr.set t k b)
  | .lf, k, b, c => rfl
  | .nd v l r, 0, b, c => rfl
  | .nd v l r, k + 1, b, c => by
    show (Nat.rec (motive := fun _ => Prop) (Tr.setK l (k / 2) b fun l' => c (.nd v l' r)) (fun _ _ => Tr.setK r (k / 2) b fun r' => c (.nd v l r')) (k % 2)) = _
    rw [Tr.set_nd_succ]
    cases h : k % 2 with
    | zero => rw [if_pos rfl]; exact Tr.setK_eq l _ _ _
    | succ n => rw [if_neg (by omega)]; exact Tr.setK_eq r _ _ _

structure H where
  mem : Tr
  next : Nat
  base : Nat

structure H.Wf (h : H) : Prop where
  low : h.base ≤ h.next

noncomputable def H.get (h : H) (id : Nat) : Blk := Bool.rec .dead (Tr.get h.mem id) (Nat.blt id h.next)
/-- a new block -/
noncomputable def H.push (h : H) (b : Blk) : Option (Nat × H) := some (h.next, ⟨Tr.set h.mem h.next b, Nat.succ h.next, h.base⟩)
/-- an old block is written anew; 'none': it is none of those that may be written -/
noncomputable def H.put (h : H) (id : Nat) (b : Blk) : Option H :=
  H.rec (motive := fun _ => Option H) (fun m n bs => Bool.rec none (Bool.rec none (some ⟨Tr.set m id b, n, bs⟩) (Nat.ble bs id)) (Nat.blt id n)) h

theorem blt_iff (a b : Nat) : Nat.blt a b = true ↔ a < b := by simp [Nat.blt, Nat.lt_iff_add_one_le]
theorem ble_iff (a b : Nat) : Nat.ble a b = true ↔ a ≤ b := by rw [Nat.ble_eq]
theorem H.get_eq (h : H) (id : Nat) : h.get id = if id < h.next then Tr.get h.mem id else .dead := by
  unfold H.get; rw [Str.brec]; simp only [blt_iff]
theorem H.put_eq (h : H) (id : Nat) (b : Blk) : h.put id b = if id < h.next ∧ h.base ≤ id then some ⟨Tr.set h.mem id b, h.next, h.base⟩ else none := by
  cases h; unfold H.put; simp only [Str.brec, blt_iff, ble_iff]
  split <;> split <;> simp_all
theorem H.push_some {h h' : H} {b : Blk} {n : Nat} (e : h.push b = some (n, h')) (wf : h.Wf) :
    n = h.next ∧ h'.next = h.next + 1 ∧ h'.base = h.base ∧ h'.Wf ∧ (∀ id, h'.get id = if id = h.next then b else h.get id) := by
  unfold H.push at e
  injection e with e; injection e with e1 e2
  subst e1 e2
  refine ⟨rfl, rfl, rfl, ⟨Nat.le_succ_of_le wf.low⟩, fun id => ?_⟩
  rw [H.get_eq, H.get_eq]
  show (if id < h.next + 1 then Tr.get (Tr.set h.mem h.next b) id else .dead) = _
  by_cases h1 : id = h.next
  · subst h1; rw [if_pos (by omega), if_pos rfl, Tr.get_set, if_pos rfl]
  · rw [if_neg h1]
    by_cases h2 : id < h.next
    · rw [if_pos (by omega), if_pos h2, Tr.get_set, if_neg h1]
    · rw [if_neg (by omega), if_neg h2]
theorem H.put_some {h h' : H} {b : Blk} {i : Nat} (e : h.put i b = some h') (wf : h.Wf) :
    i < h.next ∧ h.base ≤ i ∧ h'.next = h.next ∧ h'.base = h.base ∧ h'.Wf ∧ (∀ id, h'.get id = if id = i then b else h.get id) := by
  rw [H.put_eq] at e
  split at e
  · rename_i hlt
    injection e with e
    subst e
    refine ⟨hlt.1, hlt.2, rfl, rfl, ⟨wf.low⟩, fun id => ?_⟩
    rw [H.get_eq, H.get_eq]
    show (if id < h.next then Tr.get (Tr.set h.mem i b) id else .dead) = _
    by_cases h2 : id < h.next
    · rw [if_pos h2, if_pos h2, Tr.get_set]
    · rw [if_neg h2, if_neg h2, if_neg (by omega)]
  · cases e
theorem H.get_of_le {h : H} {id : Nat} (hi : h.next ≤ id) : h.get id = .dead := by rw [H.get_eq, if_neg (by omega)]
theorem H.lt_of_live {h : H} {id : Nat} (hl : (h.get id).live = true) : id < h.next := by
  rcases Nat.lt_or_ge id h.next with h1 | h1
  · exact h1
  · rw [H.get_of_le h1] at hl; cases hl

/-! ## the relation -/
/-- where an abstract block's first cell lies: a block, and a place in it; how many cells that block has -/
structure Mu where
  loc : Nat → Option (Nat × Nat)
  sz : Nat → Nat
instance : CoeFun Mu (fun _ => Nat → Option (Nat × Nat)) := ⟨Mu.loc⟩

mutual
def AV.rel (μ : Mu) : AV → Value → Prop
  | .junk, _ => True
  | .bool b, v => v = .bool b
  | .int k n, v => v = .int k n
  | .str s, v => ∃ b : ByteArray, v = .string b ∧ s = Str.of b.data.toList
  | .nilp, v => v = .pointer none
  | .ptr id off, v => ∃ b d, μ id = some (b, d) ∧ v = .pointer (some ⟨b, d + off, none⟩)
  | .nils, v => v = .slice none 0 0
  | .slice id off len cap es ex, v => ∃ b d c o, μ id = some (b, d) ∧ v = .slice (some ⟨b, o, none⟩) len c ∧ (0 < cap → o = d + off) ∧ cap ≤ c ∧ (ex = true → c = cap) ∧ len ≤ cap ∧ d ≤ o ∧ o + c * es ≤ μ.sz id
  | .nilm, v => v = .map none
  | .map id, v => ∃ b, μ id = some (b, 0) ∧ v = .map (some b)
  | .func fn f c, v => ∃ f' c', v = .func fn f' c' ∧ AV.relL μ f f'.toList ∧ AV.relL μ c c'.toList
  | .nilf, v => v = .nilFunc
  | .iface t x, v => ∃ y, v = .iface t y ∧ AV.rel μ x y
  | .nili, v => v = .nilIface
  | .agg cs, v => ∃ vs, v = .agg vs ∧ AV.relL μ cs vs.toList
  | .tuple cs, v => ∃ vs, v = .tuple vs ∧ AV.relL μ cs vs.toList
  | .yield id, v => ∃ b, μ id = some (b, 0) ∧ v = .func (.yield b) #[] #[]
def AV.relL (μ : Mu) : List AV → List Value → Prop
  | [], vs => vs = []
  | a :: as, vs => ∃ v vs', vs = v :: vs' ∧ AV.rel μ a v ∧ AV.relL μ as vs'
end

end Go.Am
