/- Maps of files and of names, as lists: what is looked up, put and taken out. No condition. -/
import Derived.Test.YtiejkbmobmgdkaaAmL7
namespace Go.Am
open Go
set_option linter.all false
/-! ## two rows, one beside the other -/
inductive All2 {α β : Type} (R : α → β → Prop) : List α → List β → Prop where
  | nil : All2 R [] []
  | cons {a : α} {b : β} {l : List α} {m : List β} : R a b → All2 R l m → All2 R (a :: l) (b :: m)
theorem All2.imp {α β : Type} {R S : α → β → Prop} {l : List α} {m : List β} (h : All2 R l m) (hi : ∀ a b, a ∈ l → R a b → S a b) : All2 S l m := by
  induction h with
  | nil => exact .nil
  | cons h1 h2 ih => exact .cons (hi _ _ List.mem_cons_self h1) (ih fun a b hm => hi a b (List.mem_cons_of_mem _ hm))
theorem All2.length {α β : Type} {R : α → β → Prop} {l : List α} {m : List β} (h : All2 R l m) : l.length = m.length := by
  induction h with
  | nil => rfl
  | cons _ _ ih => simp [ih]
theorem All2.get {α β : Type} {R : α → β → Prop} {l : List α} {m : List β} (h : All2 R l m) : ∀ {i : Nat} (h1 : i < l.length) (h2 : i < m.length), R l[i] m[i] := by
  induction h with
  | nil => intro i h1; simp at h1
  | cons h1 _ ih =>
    intro i q1 q2
    cases i with
    | zero => exact h1
    | succ i => exact ih (by simpa using q1) (by simpa using q2)
theorem All2.append {α β : Type} {R : α → β → Prop} {l l' : List α} {m m' : List β} (h : All2 R l m) (h' : All2 R l' m') : All2 R (l ++ l') (m ++ m') := by
  induction h with
  | nil => exact h'
  | cons h1 _ ih => exact .cons h1 ih
/-! ## bytes that nobody writes -/
/-- v: bytes that are told as b -/
def SlB (h : H) (v : AV) (b : List UInt8) : Prop := (b = [] ∧ v = .nils) ∨ ∃ id off cap ex t f sg l, v = .slice id off b.length cap 1 ex ∧ h.get id = .bytes t f sg (Str.of l) ∧ off + b.length ≤ l.length ∧ (l.take (off + b.length)).drop off = b ∧ b.length ≤ cap
theorem SlB.same {h h' : H} {v : AV} {b : List UInt8} (s : SlB h v b) (hg : ∀ id t f g x, h.get id = .bytes t f g x → h'.get id = h.get id) : SlB h' v b := by
  rcases s with s | ⟨id, off, cap, ex, t, f, sg, l, e1, e2, e3⟩
  · exact .inl s
  · exact .inr ⟨id, off, cap, ex, t, f, sg, l, e1, by rw [hg _ _ _ _ _ e2]; exact e2, e3⟩
theorem SlB.nil (h : H) : SlB h .nils [] := .inl ⟨rfl, rfl⟩
theorem SlB.row {h : H} {id cap t f : Nat} {ex sg : Bool} {l : List UInt8} (e : h.get id = .bytes t f sg (Str.of l)) (hc : l.length ≤ cap) : SlB h (.slice id 0 l.length cap 1 ex) l :=
  .inr ⟨id, 0, cap, ex, t, f, sg, l, rfl, e, by omega, by simp, hc⟩
theorem SlB.ofRow {g : Bool} {e n : Nat} {h : H} {v : AV} {l : List UInt8} (r : Row g e n h v l) : SlB h v l := by
  rcases r with ⟨rfl, rfl⟩ | ⟨id, ex, sg, rfl, r2, r3, r4, r5⟩
  · exact SlB.nil h
  · exact SlB.row r4 (Nat.le_refl _)
theorem SlB.len {h : H} {v : AV} {b : List UInt8} (s : SlB h v b) (k : Nat → Prop) : lenK v k = k b.length := by
  rcases s with ⟨rfl, rfl⟩ | ⟨id, off, cap, ex, t, f, sg, l, rfl, _⟩ <;> rfl
theorem SlB.one {h : H} {v : AV} {b : List UInt8} (s : SlB h v b) : isOne v = true := by
  rcases s with ⟨rfl, rfl⟩ | ⟨id, off, cap, ex, t, f, sg, l, rfl, _⟩ <;> rfl
theorem SlB.str {h : H} {v : AV} {b : List UInt8} (s : SlB h v b) (k : Str → Prop) : toStrK v h k = k (Str.of b) := by
  rcases s with ⟨rfl, rfl⟩ | ⟨id, off, cap, ex, t, f, sg, l, rfl, e2, e3, e4⟩
  · rfl
  · unfold toStrK
    rw [asSl_slice, e2, asRow_bytes, fN_eq]
    show ck (Nat.ble (off + b.length) l.length) _ = _
    rw [(ble_iff _ _).2 e3, ck_t, fS_eq]
    show k ((Str.of l).sub off (off + b.length)) = _
    rw [Str.sub_of l off _ (by omega) e3, e4.1]
theorem SlB.src {h : H} {v : AV} {b : List UInt8} (s : SlB h v b) (t : Nat) (k : Str → Prop) : srcB (.slice t) v h k = k (Str.of b) := s.str k
theorem SlB.nilB {h : H} {v : AV} {b : List UInt8} (s : SlB h v b) {k : Bool → Prop} (h1 : b = [] → v = .nils → k true) (h2 : k false) : nilB 2 v k := by
  rcases s with ⟨rfl, rfl⟩ | ⟨id, off, cap, ex, t, f, sg, l, rfl, e2, e3, e4⟩
  · exact h1 rfl rfl
  · exact h2
theorem take_drop_take {α : Type} (l : List α) {o n i m : Nat} (him : i + m ≤ n) : (l.take (o + i + m)).drop (o + i) = (((l.take (o + n)).drop o).drop i).take m := by
  rw [List.drop_take, List.drop_take, List.drop_take, List.drop_drop, List.take_take]
  congr 1; omega
/-- a part of a row -/
theorem SlB.part {h : H} {v : AV} {b : List UInt8} (s : SlB h v b) {i m : Nat} (him : i + m ≤ b.length) (hm : 0 < m) {kk k2 k3 : IntKind} :
    ∃ v', aSlice3 1 v (some (.int kk (Int.ofNat i))) (some (.int k2 (Int.ofNat (i + m)))) (.int k3 (Int.ofNat (i + m))) = some v' ∧ SlB h v' ((b.drop i).take m) := by
  rcases s with ⟨rfl, rfl⟩ | ⟨id, off, cap, ex, t, f, sg, l, rfl, e2, e3, e4, e5⟩
  · simp at him; omega
  · refine ⟨.slice id (off + i) m m 1 true, ?_, ?_⟩
    · unfold aSlice3
      simp only [bnd]
      rw [(ble_iff (i + m) cap).2 (by omega), (ble_iff (i + m) (i + m)).2 (Nat.le_refl _), (ble_iff i (i + m)).2 (by omega)]
      have e : Nat.beq (i + m) i = false := by
        cases hb : Nat.beq (i + m) i with
        | false => rfl
        | true => rw [Nat.beq_eq] at hb; omega
      rw [e]
      simp only [seqN_eq]
      have a1 : Nat.add off (Nat.mul i 1) = off + i := by show off + i * 1 = _; omega
      have a2 : Nat.sub (i + m) i = m := by show i + m - i = m; omega
      rw [a1, a2]
      rfl
    · have el : ((b.drop i).take m).length = m := by simp; omega
      refine .inr ⟨id, off + i, m, true, t, f, sg, l, by rw [el], e2, by rw [el]; omega, ?_, by rw [el]; exact Nat.le_refl _⟩
      rw [el, take_drop_take l him, e4]
/-- what stands behind a place -/
theorem SlB.rest {h : H} {v : AV} {b : List UInt8} (s : SlB h v b) {i : Nat} (hi : i < b.length) {kk : IntKind} {k : AV → Prop} (hk : ∀ v', (∀ f : Nat → Prop, lenK v' f = f (b.length - i)) → k v') :
    slK 1 v (some (.int kk (Int.ofNat i))) none k := by
  rcases s with ⟨rfl, rfl⟩ | ⟨id, off, cap, ex, t, f, sg, l, rfl, e2, e3, e4, e5⟩
  · simp at hi
  · unfold slK
    rw [asSl_slice]
    show ck (Nat.ble b.length cap) (ck (Nat.ble i b.length) (ck true (br (Nat.beq cap i) _ _)))
    rw [(ble_iff _ _).2 e5, (ble_iff _ _).2 (by omega), ck_t, ck_t, ck_t, fN_eq, fN_eq, fN_eq, fN_eq]
    refine br_intro (fun h0 => ?_) fun h0 => ?_
    · rw [Nat.beq_eq] at h0; omega
    · exact hk _ fun f => rfl
/-! ## the model's maps -/
def fget : List (Int × List UInt8) → Int → Option (List UInt8)
  | [], _ => none
  | p :: l, x => if p.1 = x then some p.2 else fget l x
def frepl : List (Int × List UInt8) → Int → List UInt8 → List (Int × List UInt8)
  | [], _, _ => []
  | p :: l, x, b => if p.1 = x then (x, b) :: frepl l x b else p :: frepl l x b
def fins : List (Int × List UInt8) → Int → List UInt8 → List (Int × List UInt8)
  | [], x, b => [(x, b)]
  | p :: l, x, b => if x < p.1 then (x, b) :: p :: l else p :: fins l x b
def fput (l : List (Int × List UInt8)) (x : Int) (b : List UInt8) : List (Int × List UInt8) := if (fget l x).isSome then frepl l x b else fins l x b
def nget : List (List UInt8 × Int) → List UInt8 → Option Int
  | [], _ => none
  | p :: l, s => if p.1 = s then some p.2 else nget l s
def nrepl : List (List UInt8 × Int) → List UInt8 → Int → List (List UInt8 × Int)
  | [], _, _ => []
  | p :: l, s, x => if p.1 = s then (s, x) :: nrepl l s x else p :: nrepl l s x
def nins : List (List UInt8 × Int) → List UInt8 → Int → List (List UInt8 × Int)
  | [], s, x => [(s, x)]
  | p :: l, s, x => if Op.bytesLess s p.1 = true then (s, x) :: p :: l else p :: nins l s x
def nput (l : List (List UInt8 × Int)) (s : List UInt8) (x : Int) : List (List UInt8 × Int) := if (nget l s).isSome then nrepl l s x else nins l s x
def ndel : List (List UInt8 × Int) → List UInt8 → List (List UInt8 × Int)
  | [], _ => []
  | p :: l, s => if p.1 = s then ndel l s else p :: ndel l s
/-- an entry of a map of files -/
def FileE (h : H) (e : AV × AV) (p : Int × List UInt8) : Prop := e.1 = .int .i64 p.1 ∧ SlB h e.2 p.2
def nameE (p : List UInt8 × Int) : AV × AV := (.str (Str.of p.1), .int .i64 p.2)
theorem keyEqI (x y : Int) : keyEq (.int .i64) (.int .i64 x) (.int .i64 y) = some (eqI x y) := by
  unfold keyEq
  have e : keq .i64 .i64 = true := keq_iff.2 rfl
  simp only [e]
theorem keyEqS (a b : List UInt8) : keyEq .str (.str (Str.of a)) (.str (Str.of b)) = some (decide (a = b)) := by
  show some ((Str.of a).beq (Str.of b)) = _
  rw [beq_lit]
theorem findF {h : H} {es : List (AV × AV)} {fl : List (Int × List UInt8)} (a : All2 (FileE h) es fl) (x : Int) : (fget fl x = none ∧ aFindC (.int .i64) (.int .i64 x) es = some none) ∨ ∃ b v, fget fl x = some b ∧ SlB h v b ∧ aFindC (.int .i64) (.int .i64 x) es = some (some v) := by
  induction a with
  | nil => exact .inl ⟨rfl, rfl⟩
  | @cons e p l m h1 h2 ih =>
    obtain ⟨k, v⟩ := e
    obtain ⟨y, b⟩ := p
    obtain ⟨hk, hv⟩ := h1
    have hk : k = .int .i64 y := hk
    subst hk
    have hv : SlB h v b := hv
    unfold aFindC fget
    rw [show keyEq (.int .i64) (.int .i64 x) ((AV.int .i64 y, v) : AV × AV).1 = some (eqI x y) from keyEqI x y]
    by_cases hxy : y = x
    · subst hxy
      rw [if_pos rfl, eqI_true.2 rfl]
      refine .inr ⟨b, v, rfl, hv, ?_⟩
      rcases ih with ⟨_, e⟩ | ⟨_, _, _, _, e⟩ <;> rw [e]
    · rw [if_neg hxy, eqI_false.2 (fun e => hxy e.symm)]
      rcases ih with ⟨e1, e⟩ | ⟨b', v', e1, e2, e⟩
      · exact .inl ⟨e1, by rw [e]⟩
      · exact .inr ⟨b', v', e1, e2, by rw [e]⟩
theorem findN (nl : List (List UInt8 × Int)) (s : List UInt8) : aFindC .str (.str (Str.of s)) (nl.map nameE) = some ((nget nl s).map fun x => .int .i64 x) := by
  induction nl with
  | nil => rfl
  | cons p l ih =>
    rw [List.map_cons]
    unfold aFindC nget
    rw [show keyEq .str (.str (Str.of s)) (nameE p).1 = some (decide (s = p.1)) from keyEqS s p.1, ih]
    by_cases h : p.1 = s
    · subst h; rw [if_pos rfl, decide_eq_true rfl]; rfl
    · rw [if_neg h, decide_eq_false (fun e => h e.symm)]
theorem replF {h : H} {es : List (AV × AV)} {fl : List (Int × List UInt8)} (a : All2 (FileE h) es fl) {x : Int} {v : AV} {b : List UInt8} (hv : SlB h v b) : All2 (FileE h) (replC (.int .i64) (.int .i64 x) v es) (frepl fl x b) := by
  induction a with
  | nil => exact .nil
  | @cons e p l m h1 h2 ih =>
    obtain ⟨k, w⟩ := e
    obtain ⟨y, c⟩ := p
    have hk : k = .int .i64 y := h1.1
    subst hk
    unfold replC frepl
    rw [show keyEq (.int .i64) (.int .i64 x) ((AV.int .i64 y, w) : AV × AV).1 = some (eqI x y) from keyEqI x y]
    by_cases hxy : y = x
    · subst hxy
      rw [if_pos rfl, eqI_true.2 rfl]
      exact .cons ⟨rfl, hv⟩ ih
    · rw [if_neg hxy, eqI_false.2 (fun e => hxy e.symm)]
      exact .cons h1 ih
theorem insF {h : H} {es : List (AV × AV)} {fl : List (Int × List UInt8)} (a : All2 (FileE h) es fl) {x : Int} {v : AV} {b : List UInt8} (hv : SlB h v b) : All2 (FileE h) (insC (.int .i64 x, v) es) (fins fl x b) := by
  induction a with
  | nil => exact .cons ⟨rfl, hv⟩ .nil
  | @cons e p l m h1 h2 ih =>
    obtain ⟨k, w⟩ := e
    obtain ⟨y, c⟩ := p
    have hk : k = .int .i64 y := h1.1
    subst hk
    rw [insC_cons]
    unfold fins
    have e : keyLt ((AV.int .i64 x, v) : AV × AV).1 ((AV.int .i64 y, w) : AV × AV).1 = ltI x y := rfl
    rw [e, ltI_eq]
    by_cases hxy : x < y
    · rw [if_pos hxy, if_pos (by simpa using hxy)]
      exact .cons ⟨rfl, hv⟩ (.cons h1 h2)
    · rw [if_neg hxy, if_neg (by simpa using hxy)]
      exact .cons h1 ih
theorem replN (nl : List (List UInt8 × Int)) (s : List UInt8) (x : Int) : replC .str (.str (Str.of s)) (.int .i64 x) (nl.map nameE) = (nrepl nl s x).map nameE := by
  induction nl with
  | nil => rfl
  | cons p l ih =>
    rw [List.map_cons]
    unfold replC nrepl
    rw [show keyEq .str (.str (Str.of s)) (nameE p).1 = some (decide (s = p.1)) from keyEqS s p.1, ih]
    by_cases h : p.1 = s
    · subst h; rw [if_pos rfl, decide_eq_true rfl]; rfl
    · rw [if_neg h, decide_eq_false (fun e => h e.symm)]; rfl
theorem insN (nl : List (List UInt8 × Int)) (s : List UInt8) (x : Int) : insC (.str (Str.of s), .int .i64 x) (nl.map nameE) = (nins nl s x).map nameE := by
  induction nl with
  | nil => rfl
  | cons p l ih =>
    rw [List.map_cons, insC_cons]
    unfold nins
    have e : keyLt ((AV.str (Str.of s), AV.int .i64 x) : AV × AV).1 (nameE p).1 = Op.bytesLess s p.1 := Str.lt_of s p.1
    rw [e, ih]
    split <;> rfl
theorem delN (nl : List (List UInt8 × Int)) (s : List UInt8) : delC .str (.str (Str.of s)) (nl.map nameE) = (ndel nl s).map nameE := by
  induction nl with
  | nil => rfl
  | cons p l ih =>
    rw [List.map_cons]
    unfold delC ndel
    rw [show keyEq .str (.str (Str.of s)) (nameE p).1 = some (decide (s = p.1)) from keyEqS s p.1, ih]
    by_cases h : p.1 = s
    · subst h; rw [if_pos rfl, decide_eq_true rfl]
    · rw [if_neg h, decide_eq_false (fun e => h e.symm)]; rfl
end Go.Am
