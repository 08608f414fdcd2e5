/- Arguments: a struct is told as its cells; parameters that are read. -/
import Derived.Test.YtdaibgpceldbdaaGreatDoorAmTop
import Derived.WideShapes
namespace Go.Am
open Go Go.ChangeShapes Go.WideShapes Go.RowKit
/-- p, hidden from what would reckon it -/
structure Holds (p : Prop) : Prop where
  out : p
theorem holds_of_run {p : Prop} (h : (AV.bool true = AV.bool true) = p) : Holds p := ⟨h ▸ rfl⟩
theorem law0h {P : Program} {f : FuncId} {g : Fun} (hok : FunOk P f g) (henter : ∀ args w, (callFunc f args).run P w = .ok (.enter f args) w) {l : List AV} (hg : Holds (g l H0 isT))
    {W : World} {args : Array Value} (ha : AV.relL noMu l args.toList) : Calls P f args W fun e W' => e = .returned (.bool true) ∧ Below W.heap.size W W' := law0 hok henter hg.out ha
theorem relL_junk {μ : Mu} : ∀ {n : Nat} {vs : List Value}, vs.length = n → AV.relL μ (List.replicate n .junk) vs
  | 0, vs, h => AV.relL_nil.2 (List.length_eq_zero_iff.1 h)
  | n + 1, [], h => by cases h
  | n + 1, v :: vs, h => by
    rw [List.replicate_succ]
    exact AV.relL_cons_cons.2 ⟨by simp only [AV.rel], relL_junk (by simpa using h)⟩
theorem agg_junk {P : Program} {w : World} {r : Reach} {base : Nat} {t : TypeId} {v : Value} {fs : Array Field} {n : Nat} {μ : Mu} (ht : P.underlying t = some (.struct fs)) (hc : P.cellsOf t = n) (h : Value.okWide P w r base t v) : AV.rel μ (.agg (List.replicate n .junk)) v := by
  obtain ⟨cs, rfl, hs⟩ := okWide_struct ht h
  simp only [AV.rel]
  exact ⟨cs, rfl, relL_junk (by rw [Array.length_toList, hs, hc])⟩
theorem pars_ok {P : Program} {ts : List TypeId} (h : (ts.all fun t => P.readableRec t && Nat.blt t P.types.size) = true) : ∀ t ∈ ts, P.readableRec t = true ∧ t < P.types.size := fun t ht => by
  have := List.all_eq_true.1 h t ht
  simp only [Bool.and_eq_true, blt_iff] at this
  exact this
/-- what is told of an argument's cell: numbers, texts, bools; of the others nothing -/
def Shape (P : Program) (u : TypeId) (a : AV) : Prop :=
  match P.underlying u with
  | some (.int k) => ∃ n, a = .int k n
  | some .string => ∃ s, a = .str s
  | some .bool => ∃ b, a = .bool b
  | _ => a = .junk
def Shapes (P : Program) : List TypeId → List AV → Prop
  | [], [] => True
  | u :: us, a :: as => Shape P u a ∧ Shapes P us as
  | _, _ => False
theorem cell_shape {P : Program} {w : World} {r : Reach} {base : Nat} {u : TypeId} {v : Value} {μ : Mu} (h : Cell.okWide P w r base u v) : ∃ a, Shape P u a ∧ AV.rel μ a v := by
  unfold Shape
  cases hu : P.underlying u with
  | none => exact ⟨.junk, rfl, by simp only [AV.rel]⟩
  | some d =>
    cases d with
    | bool =>
      obtain ⟨b, rfl⟩ := okWide_bool hu (show Value.okWide P w r base u v by simp only [Value.okWide, hu]; exact h)
      exact ⟨.bool b, ⟨b, rfl⟩, by simp only [AV.rel]⟩
    | int k =>
      obtain ⟨b, rfl⟩ := okWide_int hu (show Value.okWide P w r base u v by simp only [Value.okWide, hu]; exact h)
      exact ⟨.int k b, ⟨b, rfl⟩, by simp only [AV.rel]⟩
    | string =>
      obtain ⟨b, rfl⟩ := okWide_string hu (show Value.okWide P w r base u v by simp only [Value.okWide, hu]; exact h)
      exact ⟨.str (Str.of b.data.toList), ⟨_, rfl⟩, by simp only [AV.rel]; exact ⟨b, rfl, rfl⟩⟩
    | _ => exact ⟨.junk, rfl, by simp only [AV.rel]⟩
theorem row_shape {P : Program} {w : World} {r : Reach} {base : Nat} {μ : Mu} : ∀ {ts : List TypeId} {vs : List Value}, vs.length = ts.length → (∀ (i : Nat) (v : Value), vs[i]? = some v → ∃ u, ts[i]? = some u ∧ Cell.okWide P w r base u v) → ∃ as, Shapes P ts as ∧ AV.relL μ as vs
  | [], vs, hl, _ => ⟨[], trivial, AV.relL_nil.2 (List.length_eq_zero_iff.1 hl)⟩
  | u :: ts, [], hl, _ => by cases hl
  | u :: ts, v :: vs, hl, h => by
    obtain ⟨u', hu, hc⟩ := h 0 v rfl
    have : u = u' := by simpa using hu
    subst this
    obtain ⟨a, ha, hr⟩ := cell_shape (μ := μ) hc
    obtain ⟨as, has, hrs⟩ := row_shape (μ := μ) (ts := ts) (vs := vs) (by simpa using hl) fun i v hv => by simpa using h (i + 1) v (by simpa using hv)
    exact ⟨a :: as, ⟨ha, has⟩, AV.relL_cons_cons.2 ⟨hr, hrs⟩⟩
theorem agg_shape {P : Program} {w : World} {r : Reach} {base : Nat} {t : TypeId} {v : Value} {fs : Array Field} {ts : List TypeId} {μ : Mu} (ht : P.underlying t = some (.struct fs)) (hts : P.cellTypes P.depth t = some ts) (hc : P.cellsOf t = ts.length) (h : Value.okWide P w r base t v) : ∃ as, Shapes P ts as ∧ AV.rel μ (.agg as) v := by
  simp only [Value.okWide, ht] at h
  obtain ⟨cs, rfl, hs, ts', h1, _, h2⟩ := h
  rw [hts] at h1
  injection h1 with h1; subst h1
  have hl : cs.toList.length = ts.length := by rw [Array.length_toList, hs, hc]
  obtain ⟨as, q1, q2⟩ := row_shape (P := P) (w := w) (r := r) (base := base) (μ := μ) (ts := ts) (vs := cs.toList) hl fun i v hv => by
    rw [Array.getElem?_toList] at hv
    obtain ⟨u, hu, hok⟩ := h2 i v hv
    have hi : i < cs.size := (Array.getElem?_eq_some_iff.1 hv).1
    have hi' : i < ts.length := by rw [← hl, Array.length_toList]; exact hi
    rw [Nat.mod_eq_of_lt hi'] at hu
    exact ⟨u, hu, hok⟩
  exact ⟨as, q1, by simp only [AV.rel]; exact ⟨cs, rfl, q2⟩⟩
end Go.Am
