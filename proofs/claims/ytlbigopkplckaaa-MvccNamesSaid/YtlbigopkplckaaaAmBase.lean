/- The abstract values and the abstract heap of the functional semantics, and how they stand to the model's. -/
import Derived.Test.YtlbigopkplckaaaAmStr
import Derived.Calls
import Derived.Orders
namespace Go.Am
open Go

inductive AV where
  | junk
  | bool (b : Bool)
  | int (k : IntKind) (n : Int)
  | str (s : Str)
  | nilp
  | ptr (id off : Nat)
  | nils
  | slice (id off len cap es : Nat) (exact : Bool)
  | nilm
  | map (id : Nat)
  | func (fn : Fn) (first captured : List AV)
  | nilf
  | iface (t : Nat) (v : AV)
  | nili
  | agg (cs : List AV)
  | tuple (vs : List AV)
  deriving Inhabited

/-- A block: 'cells' holds a row of cells ('mv' false: it begins where the concrete block begins); 'bytes' holds a row of bytes as one text ('fz': so many leading ones may not be written; 'sg': it was made of a string). -/
inductive Blk where
  | dead
  | cells (mv : Bool) (t : Nat) (cs : List AV)
  | bytes (t : Nat) (fz : Nat) (sg : Bool) (s : Str)
  | amap (t : Nat) (es : List (AV × AV))
  deriving Inhabited

def Blk.live : Blk → Bool
  | .dead => false
  | _ => true

/-! ## lists, by their recursors -/
noncomputable def lget {α : Type} (d : α) (l : List α) : Nat → α :=
  List.rec (motive := fun _ => Nat → α) (fun _ => d) (fun a _ ih i => Nat.rec (motive := fun _ => α) a (fun j _ => ih j) i) l
noncomputable def lset {α : Type} (l : List α) : Nat → α → List α :=
  List.rec (motive := fun _ => Nat → α → List α) (fun _ _ => []) (fun a t ih i v => Nat.rec (motive := fun _ => List α) (v :: t) (fun j _ => a :: ih j v) i) l
theorem lget_eq {α : Type} (d : α) : ∀ (l : List α) (i : Nat), lget d l i = l.getD i d
  | [], _ => rfl
  | _ :: _, 0 => rfl
  | _ :: t, i + 1 => by
    show lget d t i = _
    rw [lget_eq d t i]; simp
theorem lset_eq {α : Type} : ∀ (l : List α) (i : Nat) (v : α), lset l i v = l.set i v
  | [], _, _ => rfl
  | _ :: _, 0, _ => rfl
  | a :: t, i + 1, v => by
    show a :: lset t i v = _
    rw [lset_eq t i v]; rfl

/-! ## the heap: a tree by a number's bits -/
inductive Tr where
  | lf
  | tip (b : Blk)
  | nd (l r : Tr)
noncomputable def Tr.get (f : Nat) : Tr → Nat → Blk := Nat.rec (motive := fun _ => Tr → Nat → Blk)
  (fun t _ => Tr.rec (motive := fun _ => Blk) .dead (fun b => b) (fun _ _ _ _ => .dead) t)
  (fun _ ih t k => Tr.rec (motive := fun _ => Blk) .dead (fun _ => .dead) (fun l r _ _ => Nat.rec (motive := fun _ => Blk) (ih l (Nat.div k 2)) (fun _ _ => ih r (Nat.div k 2)) (Nat.mod k 2)) t) f
noncomputable def Tr.set (f : Nat) : Tr → Nat → Blk → Tr := Nat.rec (motive := fun _ => Tr → Nat → Blk → Tr)
  (fun _ _ b => .tip b)
  (fun _ ih t k b => Tr.rec (motive := fun _ => Tr)
    (Nat.rec (motive := fun _ => Tr) (.nd (ih .lf (Nat.div k 2) b) .lf) (fun _ _ => .nd .lf (ih .lf (Nat.div k 2) b)) (Nat.mod k 2))
    (fun _ => .lf)
    (fun l r _ _ => Nat.rec (motive := fun _ => Tr) (.nd (ih l (Nat.div k 2) b) r) (fun _ _ => .nd l (ih r (Nat.div k 2) b)) (Nat.mod k 2)) t) f
/-- only trees of the right height are met -/
def Tr.ok : Nat → Tr → Prop
  | _, .lf => True
  | 0, .tip _ => True
  | f + 1, .nd l r => Tr.ok f l ∧ Tr.ok f r
  | _, _ => False
theorem Tr.get_succ_lf (f k : Nat) : Tr.get (f + 1) .lf k = .dead := rfl
theorem Tr.get_lf (f k : Nat) : Tr.get f .lf k = .dead := by cases f <;> rfl
theorem Tr.get_nd (f : Nat) (l r : Tr) (k : Nat) : Tr.get (f + 1) (.nd l r) k = if k % 2 = 0 then Tr.get f l (k / 2) else Tr.get f r (k / 2) := by
  show (Nat.rec (motive := fun _ => Blk) (Tr.get f l (k / 2)) (fun _ _ => Tr.get f r (k / 2)) (k % 2)) = _
  cases h : k % 2 with
  | zero => rfl
  | succ n => rw [if_neg (by omega)]
theorem Tr.set_lf (f k : Nat) (b : Blk) : Tr.set (f + 1) .lf k b = if k % 2 = 0 then .nd (Tr.set f .lf (k / 2) b) .lf else .nd .lf (Tr.set f .lf (k / 2) b) := by
  show (Nat.rec (motive := fun _ => Tr) (.nd (Tr.set f .lf (k / 2) b) .lf) (fun _ _ => .nd .lf (Tr.set f .lf (k / 2) b)) (k % 2)) = _
  cases h : k % 2 with
  | zero => rfl
  | succ n => rw [if_neg (by omega)]
theorem Tr.set_nd (f : Nat) (l r : Tr) (k : Nat) (b : Blk) : Tr.set (f + 1) (.nd l r) k b = if k % 2 = 0 then .nd (Tr.set f l (k / 2) b) r else .nd l (Tr.set f r (k / 2) b) := by
  show (Nat.rec (motive := fun _ => Tr) (.nd (Tr.set f l (k / 2) b) r) (fun _ _ => .nd l (Tr.set f r (k / 2) b)) (k % 2)) = _
  cases h : k % 2 with
  | zero => rfl
  | succ n => rw [if_neg (by omega)]
theorem Tr.ok_set : ∀ (f : Nat) (t : Tr) (k : Nat) (b : Blk), Tr.ok f t → Tr.ok f (Tr.set f t k b)
  | 0, _, _, _, _ => trivial
  | f + 1, .lf, k, b, _ => by
    rw [Tr.set_lf]; split
    · exact ⟨Tr.ok_set f _ _ _ (by cases f <;> trivial), by cases f <;> trivial⟩
    · exact ⟨by cases f <;> trivial, Tr.ok_set f _ _ _ (by cases f <;> trivial)⟩
  | f + 1, .tip _, _, _, h => h.elim
  | f + 1, .nd l r, k, b, h => by
    rw [Tr.set_nd]; split
    · exact ⟨Tr.ok_set f _ _ _ h.1, h.2⟩
    · exact ⟨h.1, Tr.ok_set f _ _ _ h.2⟩
theorem Tr.get_set : ∀ (f : Nat) (t : Tr) (k j : Nat) (b : Blk), Tr.ok f t → k < 2 ^ f → j < 2 ^ f → Tr.get f (Tr.set f t k b) j = if j = k then b else Tr.get f t j
  | 0, t, k, j, b, _, hk, hj => by
    have : j = k := by simp at hk hj; omega
    rw [if_pos this]; rfl
  | f + 1, .tip _, _, _, _, h, _, _ => h.elim
  | f + 1, .lf, k, j, b, _, hk, hj => by
    rw [Nat.pow_succ] at hk hj
    rw [Tr.set_lf]
    split
    · rw [Tr.get_nd]; split
      · rw [Tr.get_set f _ _ _ _ (by cases f <;> trivial) (by omega) (by omega), Tr.get_lf, Tr.get_lf]
        by_cases e : j = k
        · rw [if_pos e, if_pos (by rw [e])]
        · rw [if_neg e, if_neg (by omega)]
      · rw [Tr.get_lf, Tr.get_lf, if_neg (by omega)]
    · rw [Tr.get_nd]; split
      · rw [Tr.get_lf, Tr.get_lf, if_neg (by omega)]
      · rw [Tr.get_set f _ _ _ _ (by cases f <;> trivial) (by omega) (by omega), Tr.get_lf, Tr.get_lf]
        by_cases e : j = k
        · rw [if_pos e, if_pos (by rw [e])]
        · rw [if_neg e, if_neg (by omega)]
  | f + 1, .nd l r, k, j, b, h, hk, hj => by
    rw [Nat.pow_succ] at hk hj
    rw [Tr.set_nd]
    split
    · rw [Tr.get_nd, Tr.get_nd]; split
      · rw [Tr.get_set f _ _ _ _ h.1 (by omega) (by omega)]
        by_cases e : j = k
        · rw [if_pos e, if_pos (by rw [e])]
        · rw [if_neg e, if_neg (by omega)]
      · rw [if_neg (by omega)]
    · rw [Tr.get_nd, Tr.get_nd]; split
      · rw [if_neg (by omega)]
      · rw [Tr.get_set f _ _ _ _ h.2 (by omega) (by omega)]
        by_cases e : j = k
        · rw [if_pos e, if_pos (by rw [e])]
        · rw [if_neg e, if_neg (by omega)]

/-- the height of the heap's tree -/
def HT : Nat := 14
def top : Nat := 16384
structure H where
  mem : Tr
  next : Nat
  base : Nat

/-- the heap is a tree of the right height, and not full -/
structure H.Wf (h : H) : Prop where
  ok : Tr.ok HT h.mem
  room : h.next ≤ top
  low : h.base ≤ h.next

noncomputable def H.get (h : H) (id : Nat) : Blk := Bool.rec .dead (Tr.get HT h.mem id) (Nat.blt id h.next)
/-- a new block; 'none': no number is left -/
noncomputable def H.push (h : H) (b : Blk) : Option (Nat × H) :=
  H.rec (motive := fun _ => Option (Nat × H)) (fun m n bs => Bool.rec none (seqN n fun n => some (n, ⟨Tr.set HT m n b, Nat.succ n, bs⟩)) (Nat.blt n top)) h
/-- an old block is written anew; 'none': it is none of those that may be written -/
noncomputable def H.put (h : H) (id : Nat) (b : Blk) : Option H :=
  H.rec (motive := fun _ => Option H) (fun m n bs => Bool.rec none (Bool.rec none (some ⟨Tr.set HT m id b, n, bs⟩) (Nat.ble bs id)) (Nat.blt id n)) h

theorem blt_iff (a b : Nat) : Nat.blt a b = true ↔ a < b := by simp [Nat.blt, Nat.lt_iff_add_one_le]
theorem ble_iff (a b : Nat) : Nat.ble a b = true ↔ a ≤ b := by rw [Nat.ble_eq]
theorem H.get_eq (h : H) (id : Nat) : h.get id = if id < h.next then Tr.get HT h.mem id else .dead := by
  unfold H.get; rw [Str.brec]; simp only [blt_iff]
theorem H.push_eq (h : H) (b : Blk) : h.push b = if h.next < top then some (h.next, ⟨Tr.set HT h.mem h.next b, h.next + 1, h.base⟩) else none := by
  cases h; unfold H.push; simp only [Str.brec, blt_iff, seqN_eq]
theorem H.put_eq (h : H) (id : Nat) (b : Blk) : h.put id b = if id < h.next ∧ h.base ≤ id then some ⟨Tr.set HT h.mem id b, h.next, h.base⟩ else none := by
  cases h; unfold H.put; simp only [Str.brec, blt_iff, ble_iff]
  split <;> split <;> simp_all

theorem H.push_some {h h' : H} {b : Blk} {n : Nat} (e : h.push b = some (n, h')) (wf : h.Wf) :
    n = h.next ∧ h'.next = h.next + 1 ∧ h'.base = h.base ∧ h'.Wf ∧ (∀ id, h'.get id = if id = h.next then b else h.get id) := by
  rw [H.push_eq] at e
  split at e
  · rename_i hlt
    injection e with e; injection e with e1 e2
    subst e1 e2
    refine ⟨rfl, rfl, rfl, ⟨Tr.ok_set _ _ _ _ wf.ok, hlt, Nat.le_succ_of_le wf.low⟩, fun id => ?_⟩
    rw [H.get_eq, H.get_eq]
    show (if id < h.next + 1 then Tr.get HT (Tr.set HT h.mem h.next b) id else .dead) = _
    have ht : top = 2 ^ HT := rfl
    by_cases h1 : id = h.next
    · subst h1; rw [if_pos (by omega), if_pos rfl, Tr.get_set _ _ _ _ _ wf.ok (by omega) (by omega), if_pos rfl]
    · rw [if_neg h1]
      by_cases h2 : id < h.next
      · rw [if_pos (by omega), if_pos h2, Tr.get_set _ _ _ _ _ wf.ok (by omega) (by have := wf.room; omega), if_neg h1]
      · rw [if_neg (by omega), if_neg h2]
  · cases e
theorem H.put_some {h h' : H} {b : Blk} {i : Nat} (e : h.put i b = some h') (wf : h.Wf) :
    i < h.next ∧ h.base ≤ i ∧ h'.next = h.next ∧ h'.base = h.base ∧ h'.Wf ∧ (∀ id, h'.get id = if id = i then b else h.get id) := by
  rw [H.put_eq] at e
  split at e
  · rename_i hlt
    injection e with e
    subst e
    refine ⟨hlt.1, hlt.2, rfl, rfl, ⟨Tr.ok_set _ _ _ _ wf.ok, wf.room, wf.low⟩, fun id => ?_⟩
    have ht : top = 2 ^ HT := rfl
    have hr := wf.room
    rw [H.get_eq, H.get_eq]
    show (if id < h.next then Tr.get HT (Tr.set HT h.mem i b) id else .dead) = _
    by_cases h2 : id < h.next
    · rw [if_pos h2, if_pos h2, Tr.get_set _ _ _ _ _ wf.ok (by omega) (by omega)]
    · rw [if_neg h2, if_neg h2, if_neg (by omega)]
  · cases e
theorem H.get_of_le {h : H} {id : Nat} (hi : h.next ≤ id) : h.get id = .dead := by rw [H.get_eq, if_neg (by omega)]
theorem H.lt_of_live {h : H} {id : Nat} (hl : (h.get id).live = true) : id < h.next := by
  rcases Nat.lt_or_ge id h.next with h1 | h1
  · exact h1
  · rw [H.get_of_le h1] at hl; cases hl

/-! ## the relation -/
/-- where an abstract block's first cell lies: a block, and a place in it; how many cells that block has -/
structure Mu where
  loc : Nat → Option (Nat × Nat)
  sz : Nat → Nat
instance : CoeFun Mu (fun _ => Nat → Option (Nat × Nat)) := ⟨Mu.loc⟩

mutual
def AV.rel (μ : Mu) : AV → Value → Prop
  | .junk, _ => True
  | .bool b, v => v = .bool b
  | .int k n, v => v = .int k n
  | .str s, v => ∃ b : ByteArray, v = .string b ∧ s = Str.of b.data.toList
  | .nilp, v => v = .pointer none
  | .ptr id off, v => ∃ b d, μ id = some (b, d) ∧ v = .pointer (some ⟨b, d + off, none⟩)
  | .nils, v => v = .slice none 0 0
  | .slice id off len cap es ex, v => ∃ b d c o, μ id = some (b, d) ∧ v = .slice (some ⟨b, o, none⟩) len c ∧ (0 < cap → o = d + off) ∧ cap ≤ c ∧ (ex = true → c = cap) ∧ len ≤ cap ∧ d ≤ o ∧ o + c * es ≤ μ.sz id
  | .nilm, v => v = .map none
  | .map id, v => ∃ b, μ id = some (b, 0) ∧ v = .map (some b)
  | .func fn f c, v => ∃ f' c', v = .func fn f' c' ∧ AV.relL μ f f'.toList ∧ AV.relL μ c c'.toList
  | .nilf, v => v = .nilFunc
  | .iface t x, v => ∃ y, v = .iface t y ∧ AV.rel μ x y
  | .nili, v => v = .nilIface
  | .agg cs, v => ∃ vs, v = .agg vs ∧ AV.relL μ cs vs.toList
  | .tuple cs, v => ∃ vs, v = .tuple vs ∧ AV.relL μ cs vs.toList
def AV.relL (μ : Mu) : List AV → List Value → Prop
  | [], vs => vs = []
  | a :: as, vs => ∃ v vs', vs = v :: vs' ∧ AV.rel μ a v ∧ AV.relL μ as vs'
end

end Go.Am
