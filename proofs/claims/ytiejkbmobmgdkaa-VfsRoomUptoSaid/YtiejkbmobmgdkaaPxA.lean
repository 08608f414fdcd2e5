/- Names and files as functions: what is looked up after a change; names rise; no two names hold one file. No condition. -/
import Derived.Test.YtiejkbmobmgdkaaVxP
namespace Go.Am
open Go
set_option linter.all false
theorem isSome_not {α : Type} {o : Option α} (h : ¬ o.isSome = true) : o = none := by cases o with
  | none => rfl
  | some x => exact absurd rfl h
theorem fget_cons (p : Int × List UInt8) (l : List (Int × List UInt8)) (x : Int) : fget (p :: l) x = if p.1 = x then some p.2 else fget l x := rfl
theorem nget_cons (p : List UInt8 × Int) (l : List (List UInt8 × Int)) (x : List UInt8) : nget (p :: l) x = if p.1 = x then some p.2 else nget l x := rfl
theorem fget_frepl : ∀ {l : List (Int × List UInt8)} {x y : Int} {b : List UInt8}, (fget l x).isSome = true → fget (frepl l x b) y = if x = y then some b else fget l y
  | [], x, y, b, h => by cases h
  | p :: l, x, y, b, h => by
    unfold frepl
    by_cases hp : p.1 = x
    · rw [if_pos hp]
      unfold fget
      by_cases hxy : x = y
      · rw [if_pos hxy, if_pos hxy]
      · rw [if_neg hxy, if_neg hxy, if_neg (by rw [hp]; exact hxy)]
        by_cases hl : (fget l x).isSome = true
        · rw [fget_frepl hl, if_neg hxy]
        · clear h hp p
          induction l with
          | nil => rfl
          | cons q l ih =>
            have hl' := isSome_not hl
            unfold fget at hl'
            split at hl'
            · cases hl'
            · rename_i hq
              unfold frepl
              rw [if_neg hq, fget_cons, fget_cons, ih (by rw [hl']; simp)]
    · rw [if_neg hp]
      have h' : (fget l x).isSome = true := by unfold fget at h; rw [if_neg hp] at h; exact h
      unfold fget
      by_cases hq : p.1 = y
      · rw [if_pos hq, if_pos hq, if_neg (fun e => hp (hq.trans e.symm))]
      · rw [if_neg hq, if_neg hq, fget_frepl h']
theorem fget_fins' : ∀ {l : List (Int × List UInt8)} {x y : Int} {b : List UInt8}, fget l x = none → fget (fins l x b) y = if x = y then some b else fget l y
  | [], x, y, b, h => by unfold fins; unfold fget; rfl
  | p :: l, x, y, b, h => by
    unfold fget at h
    split at h
    · cases h
    rename_i hp
    unfold fins
    split
    · show (if x = y then some b else fget (p :: l) y) = _; rfl
    · unfold fget
      by_cases hq : p.1 = y
      · rw [if_pos hq, if_pos hq, if_neg (fun e => hp (hq.trans e.symm))]
      · rw [if_neg hq, if_neg hq, fget_fins' h]
theorem fget_fput {l : List (Int × List UInt8)} {x y : Int} {b : List UInt8} : fget (fput l x b) y = if x = y then some b else fget l y := by
  unfold fput
  split
  · rename_i h; exact fget_frepl h
  · rename_i h; exact fget_fins' (isSome_not h)
theorem fbytes_fput {l : List (Int × List UInt8)} {x y : Int} {b : List UInt8} : fbytes (fput l x b) y = if x = y then b else fbytes l y := by
  unfold fbytes; rw [fget_fput]; split <;> rfl
theorem nget_nrepl : ∀ {l : List (List UInt8 × Int)} {x y : List UInt8} {b : Int}, (nget l x).isSome = true → nget (nrepl l x b) y = if x = y then some b else nget l y
  | [], x, y, b, h => by cases h
  | p :: l, x, y, b, h => by
    unfold nrepl
    by_cases hp : p.1 = x
    · rw [if_pos hp]
      unfold nget
      by_cases hxy : x = y
      · rw [if_pos hxy, if_pos hxy]
      · rw [if_neg hxy, if_neg hxy, if_neg (by rw [hp]; exact hxy)]
        by_cases hl : (nget l x).isSome = true
        · rw [nget_nrepl hl, if_neg hxy]
        · clear h hp p
          induction l with
          | nil => rfl
          | cons q l ih =>
            have hl' := isSome_not hl
            unfold nget at hl'
            split at hl'
            · cases hl'
            · rename_i hq
              unfold nrepl
              rw [if_neg hq, nget_cons, nget_cons, ih (by rw [hl']; simp)]
    · rw [if_neg hp]
      have h' : (nget l x).isSome = true := by unfold nget at h; rw [if_neg hp] at h; exact h
      unfold nget
      by_cases hq : p.1 = y
      · rw [if_pos hq, if_pos hq, if_neg (fun e => hp (hq.trans e.symm))]
      · rw [if_neg hq, if_neg hq, nget_nrepl h']
theorem nget_nins : ∀ {l : List (List UInt8 × Int)} {x y : List UInt8} {b : Int}, nget l x = none → nget (nins l x b) y = if x = y then some b else nget l y
  | [], x, y, b, h => by unfold nins; unfold nget; rfl
  | p :: l, x, y, b, h => by
    unfold nget at h
    split at h
    · cases h
    rename_i hp
    unfold nins
    split
    · show (if x = y then some b else nget (p :: l) y) = _; rfl
    · unfold nget
      by_cases hq : p.1 = y
      · rw [if_pos hq, if_pos hq, if_neg (fun e => hp (hq.trans e.symm))]
      · rw [if_neg hq, if_neg hq, nget_nins h]
theorem nget_nput {l : List (List UInt8 × Int)} {x y : List UInt8} {b : Int} : nget (nput l x b) y = if x = y then some b else nget l y := by
  unfold nput
  split
  · rename_i h; exact nget_nrepl h
  · rename_i h; exact nget_nins (isSome_not h)
theorem nget_ndel : ∀ {l : List (List UInt8 × Int)} {x y : List UInt8}, nget (ndel l x) y = if x = y then none else nget l y
  | [], x, y => by unfold ndel nget; split <;> rfl
  | p :: l, x, y => by
    unfold ndel
    by_cases hp : p.1 = x
    · rw [if_pos hp, nget_ndel, nget_cons]
      by_cases hxy : x = y
      · rw [if_pos hxy, if_pos hxy]
      · rw [if_neg hxy, if_neg hxy, if_neg (by rw [hp]; exact hxy)]
    · rw [if_neg hp]
      unfold nget
      by_cases hq : p.1 = y
      · rw [if_pos hq, if_pos hq, if_neg (fun e => hp (hq.trans e.symm))]
      · rw [if_neg hq, if_neg hq, nget_ndel]
theorem nget_mem : ∀ {l : List (List UInt8 × Int)} {s : List UInt8} {x : Int}, nget l s = some x → (s, x) ∈ l
  | p :: l, s, x, h => by
    unfold nget at h
    split at h
    · rename_i hp; injection h with h; subst hp h; exact List.mem_cons_self
    · exact List.mem_cons_of_mem _ (nget_mem h)
theorem nins_mem : ∀ {l : List (List UInt8 × Int)} {s : List UInt8} {x : Int} {q : List UInt8 × Int}, q ∈ nins l s x → q.1 = s ∨ q ∈ l
  | [], s, x, q, h => by simp [nins] at h; exact .inl (by rw [h])
  | p :: l, s, x, q, h => by
    unfold nins at h
    split at h
    · rcases List.mem_cons.1 h with rfl | h
      · exact .inl rfl
      · exact .inr h
    · rcases List.mem_cons.1 h with rfl | h
      · exact .inr List.mem_cons_self
      · exact (nins_mem h).imp id (List.mem_cons_of_mem _)
theorem ndel_mem : ∀ {l : List (List UInt8 × Int)} {s : List UInt8} {q : List UInt8 × Int}, q ∈ ndel l s → q ∈ l
  | p :: l, s, q, h => by
    unfold ndel at h
    split at h
    · exact List.mem_cons_of_mem _ (ndel_mem h)
    · rcases List.mem_cons.1 h with rfl | h
      · exact List.mem_cons_self
      · exact List.mem_cons_of_mem _ (ndel_mem h)
theorem bl_irr : ∀ a : List UInt8, Op.bytesLess a a = false
  | [] => rfl
  | a :: x => by
    unfold Op.bytesLess
    rw [bl_irr x, Bool.and_false, Bool.or_false]
    exact decide_eq_false (UInt8.lt_irrefl a)
theorem bl_cons {a b : UInt8} {x y : List UInt8} : Op.bytesLess (a :: x) (b :: y) = true ↔ a < b ∨ a = b ∧ Op.bytesLess x y = true := by
  show (decide (a < b) || (a == b && Op.bytesLess x y)) = true ↔ _
  rw [Bool.or_eq_true, Bool.and_eq_true, decide_eq_true_iff, beq_iff_eq]
theorem bl_trans : ∀ {a b c : List UInt8}, Op.bytesLess a b = true → Op.bytesLess b c = true → Op.bytesLess a c = true
  | [], [], _, h, _ => by cases h
  | _ :: _, [], _, h, _ => by cases h
  | _, _ :: _, [], _, h => by cases h
  | [], _ :: _, _ :: _, _, _ => rfl
  | a :: x, b :: y, c :: z, h, h' => by
    rw [bl_cons] at h h' ⊢
    rcases h with h | ⟨rfl, h⟩
    · rcases h' with h' | ⟨rfl, h'⟩
      · exact .inl (UInt8.lt_trans h h')
      · exact .inl h
    · rcases h' with h' | ⟨rfl, h'⟩
      · exact .inl h'
      · exact .inr ⟨rfl, bl_trans h h'⟩
theorem bl_total : ∀ {a b : List UInt8}, ¬ Op.bytesLess a b = true → a ≠ b → Op.bytesLess b a = true
  | [], [], _, h => absurd rfl h
  | [], _ :: _, h, _ => absurd rfl h
  | _ :: _, [], _, _ => rfl
  | a :: x, b :: y, h, hn => by
    rw [bl_cons] at h ⊢
    by_cases hab : a = b
    · subst hab
      exact .inr ⟨rfl, bl_total (fun c => h (.inr ⟨rfl, c⟩)) fun e => hn (by rw [e])⟩
    · left
      rcases UInt8.lt_or_lt_of_ne hab with c | c
      · exact absurd (.inl c) h
      · exact c
theorem bl_ne {a b : List UInt8} (h : Op.bytesLess a b = true) : a ≠ b := fun e => by rw [e, bl_irr] at h; cases h
/-- the names rise -/
def NS (l : List (List UInt8 × Int)) : Prop := l.Pairwise fun p q => Op.bytesLess p.1 q.1 = true
theorem NS.ndel : ∀ {l : List (List UInt8 × Int)} {s : List UInt8}, NS l → NS (ndel l s)
  | [], _, _ => .nil
  | p :: l, s, h => by
    have h := List.pairwise_cons.1 h
    unfold Am.ndel
    split
    · exact NS.ndel h.2
    · exact List.pairwise_cons.2 ⟨fun q hq => h.1 q (ndel_mem hq), NS.ndel h.2⟩
theorem nrepl_key : ∀ {l : List (List UInt8 × Int)} {s : List UInt8} {x : Int} {q : List UInt8 × Int}, q ∈ nrepl l s x → ∃ r ∈ l, r.1 = q.1
  | r :: l, s, x, q, hq => by
    unfold nrepl at hq
    split at hq
    · rename_i hr
      rcases List.mem_cons.1 hq with rfl | hq
      · exact ⟨r, List.mem_cons_self, hr⟩
      · obtain ⟨r', h1, h2⟩ := nrepl_key hq; exact ⟨r', List.mem_cons_of_mem _ h1, h2⟩
    · rcases List.mem_cons.1 hq with rfl | hq
      · exact ⟨_, List.mem_cons_self, rfl⟩
      · obtain ⟨r', h1, h2⟩ := nrepl_key hq; exact ⟨r', List.mem_cons_of_mem _ h1, h2⟩
theorem NS.nrepl : ∀ {l : List (List UInt8 × Int)} {s : List UInt8} {x : Int}, NS l → NS (nrepl l s x)
  | [], _, _, _ => .nil
  | p :: l, s, x, h => by
    have h := List.pairwise_cons.1 h
    have key : ∀ q ∈ Am.nrepl l s x, Op.bytesLess p.1 q.1 = true := by
      intro q hq
      obtain ⟨r, hr, e⟩ := nrepl_key hq
      rw [← e]; exact h.1 r hr
    unfold Am.nrepl
    split
    · rename_i hp
      exact List.pairwise_cons.2 ⟨fun q hq => by have := key q hq; rw [hp] at this; exact this, NS.nrepl h.2⟩
    · exact List.pairwise_cons.2 ⟨key, NS.nrepl h.2⟩
theorem NS.nins : ∀ {l : List (List UInt8 × Int)} {s : List UInt8} {x : Int}, NS l → nget l s = none → NS (nins l s x)
  | [], s, x, _, _ => List.pairwise_singleton _ _
  | p :: l, s, x, h, hn => by
    have h := List.pairwise_cons.1 h
    unfold nget at hn
    split at hn
    · cases hn
    rename_i hp
    unfold Am.nins
    split
    · rename_i hl
      refine List.pairwise_cons.2 ⟨fun q hq => ?_, List.pairwise_cons.2 h⟩
      rcases List.mem_cons.1 hq with rfl | hq
      · exact hl
      · exact bl_trans hl (h.1 q hq)
    · rename_i hl
      refine List.pairwise_cons.2 ⟨fun q hq => ?_, NS.nins h.2 hn⟩
      rcases nins_mem hq with e | hq
      · rw [e]; exact bl_total hl fun e => hp e.symm
      · exact h.1 q hq
theorem NS.nput {l : List (List UInt8 × Int)} {s : List UInt8} {x : Int} (h : NS l) : NS (nput l s x) := by
  unfold Am.nput
  split
  · exact h.nrepl
  · rename_i hn; exact h.nins (isSome_not hn)
theorem NS.get : ∀ {l : List (List UInt8 × Int)} {p : List UInt8 × Int}, NS l → p ∈ l → nget l p.1 = some p.2
  | q :: l, p, h, hm => by
    have h := List.pairwise_cons.1 h
    unfold nget
    rcases List.mem_cons.1 hm with rfl | hm
    · rw [if_pos rfl]
    · rw [if_neg (bl_ne (h.1 p hm)), NS.get h.2 hm]
theorem ndel_len : ∀ {l : List (List UInt8 × Int)} {s : List UInt8}, (ndel l s).length ≤ l.length
  | [], _ => Nat.le_refl _
  | p :: l, s => by
    have := ndel_len (l := l) (s := s)
    unfold ndel
    split <;> simp <;> omega
theorem nrepl_len : ∀ {l : List (List UInt8 × Int)} {s : List UInt8} {x : Int}, (nrepl l s x).length = l.length
  | [], _, _ => rfl
  | p :: l, s, x => by
    have := nrepl_len (l := l) (s := s) (x := x)
    unfold nrepl
    split <;> simp <;> omega
theorem nins_len : ∀ {l : List (List UInt8 × Int)} {s : List UInt8} {x : Int}, (nins l s x).length = l.length + 1
  | [], _, _ => rfl
  | p :: l, s, x => by
    have := nins_len (l := l) (s := s) (x := x)
    unfold nins
    split <;> simp <;> omega
theorem nput_len {l : List (List UInt8 × Int)} {s : List UInt8} {x : Int} : (nput l s x).length ≤ l.length + 1 := by
  unfold nput
  split
  · rw [nrepl_len]; omega
  · rw [nins_len]; exact Nat.le_refl _
/-- names that rise, each of a file of its own, of a number below nx -/
structure GoodN (nx : Int) (c : Nat) (l : List (List UInt8 × Int)) : Prop where
  ns : NS l
  inj : ∀ s t x, nget l s = some x → nget l t = some x → s = t
  lt : ∀ s x, nget l s = some x → 0 ≤ x ∧ x < nx
  len : l.length ≤ c
  nmd : ∀ s x, nget l s = some x → named s = true
theorem GoodN.nil (nx : Int) (c : Nat) : GoodN nx c [] := ⟨.nil, fun s t x h => (by cases h), fun s x h => (by cases h), Nat.zero_le _, fun s x h => (by cases h)⟩
theorem GoodN.mono {nx nx' : Int} {c c' : Nat} {l : List (List UInt8 × Int)} (g : GoodN nx c l) (h1 : nx ≤ nx') (h2 : c ≤ c') : GoodN nx' c' l := ⟨g.ns, g.inj, fun s x h => ⟨(g.lt s x h).1, Int.lt_of_lt_of_le (g.lt s x h).2 h1⟩, Nat.le_trans g.len h2, g.nmd⟩
theorem GoodN.nodup {nx : Int} {c : Nat} {l : List (List UInt8 × Int)} (g : GoodN nx c l) : (l.map (·.2)).Nodup := by
  rw [List.Nodup, List.pairwise_map]
  refine List.Pairwise.imp_of_mem (fun {p q} hp hq hl => ?_) g.ns
  intro e
  have := g.inj p.1 q.1 p.2 (g.ns.get hp) (by rw [e]; exact g.ns.get hq)
  exact bl_ne hl this
theorem GoodN.put {nx : Int} {c : Nat} {l : List (List UInt8 × Int)} (g : GoodN nx c l) (h0 : 0 ≤ nx) {s : List UInt8} (hs : named s = true) : GoodN (nx + 1) (c + 1) (nput l s nx) := by
  refine ⟨g.ns.nput, fun a b x ha hb => ?_, fun a x ha => ?_, ?_, fun a x ha => ?_⟩
  rotate_left 3
  · rw [nget_nput] at ha
    split at ha
    · rename_i e; rw [← e]; exact hs
    · exact g.nmd a x ha
  · rw [nget_nput] at ha hb
    split at ha
    · rename_i h1
      split at hb
      · rename_i h2; exact h1.symm.trans h2
      · injection ha with ha; have := (g.lt b x hb).2; omega
    · split at hb
      · injection hb with hb; have := (g.lt a x ha).2; omega
      · exact g.inj a b x ha hb
  · rw [nget_nput] at ha
    split at ha
    · injection ha with ha; omega
    · have := g.lt a x ha; omega
  · have := nput_len (l := l) (s := s) (x := nx); have := g.len; omega
theorem GoodN.del {nx : Int} {c : Nat} {l : List (List UInt8 × Int)} (g : GoodN nx c l) (s : List UInt8) : GoodN nx c (ndel l s) := by
  refine ⟨g.ns.ndel, fun a b x ha hb => ?_, fun a x ha => ?_, Nat.le_trans ndel_len g.len, fun a x ha => ?_⟩
  rotate_left 2
  · rw [nget_ndel] at ha
    split at ha
    · cases ha
    · exact g.nmd a x ha
  · rw [nget_ndel] at ha hb
    split at ha
    · cases ha
    split at hb
    · cases hb
    exact g.inj a b x ha hb
  · rw [nget_ndel] at ha
    split at ha
    · cases ha
    exact g.lt a x ha
theorem GoodN.move {nx : Int} {c : Nat} {l : List (List UInt8 × Int)} (g : GoodN nx c l) {s t : List UInt8} {x : Int} (hx : nget l s = some x) (hst : s ≠ t) (ht : named t = true) : GoodN nx (c + 1) (ndel (nput l t x) s) := by
  have get : ∀ a y, nget (ndel (nput l t x) s) a = some y → a ≠ s ∧ (a = t ∧ y = x ∨ a ≠ t ∧ nget l a = some y) := by
    intro a y h
    rw [nget_ndel] at h
    split at h
    · cases h
    rename_i h1
    rw [nget_nput] at h
    split at h
    · rename_i h2; injection h with h; exact ⟨fun e => h1 e.symm, .inl ⟨h2.symm, h.symm⟩⟩
    · rename_i h2; exact ⟨fun e => h1 e.symm, .inr ⟨fun e => h2 e.symm, h⟩⟩
  refine ⟨g.ns.nput.ndel, fun a b y ha hb => ?_, fun a y ha => ?_, ?_, fun a y ha => ?_⟩
  rotate_left 3
  · obtain ⟨a1, a2⟩ := get a y ha
    rcases a2 with ⟨rfl, rfl⟩ | ⟨a3, a4⟩
    · exact ht
    · exact g.nmd a y a4
  · obtain ⟨a1, a2⟩ := get a y ha
    obtain ⟨b1, b2⟩ := get b y hb
    rcases a2 with ⟨rfl, rfl⟩ | ⟨a3, a4⟩
    · rcases b2 with ⟨rfl, _⟩ | ⟨b3, b4⟩
      · rfl
      · exact absurd (g.inj b s y b4 hx) b1
    · rcases b2 with ⟨rfl, rfl⟩ | ⟨b3, b4⟩
      · exact absurd (g.inj a s y a4 hx) a1
      · exact g.inj a b y a4 b4
  · obtain ⟨a1, a2⟩ := get a y ha
    rcases a2 with ⟨rfl, rfl⟩ | ⟨a3, a4⟩
    · exact g.lt s y hx
    · exact g.lt a y a4
  · have := nput_len (l := l) (s := t) (x := x); have := ndel_len (l := nput l t x) (s := s); have := g.len; omega
end Go.Am
