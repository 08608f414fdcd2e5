/- A range over a map, step by step. -/
import Derived.Test.YtdaibgpceldbdaaGreatDoorAmDead
namespace Go.Am
open Go
theorem hput_get {h h' : H} {i : Nat} {b : Blk} (e : h.put i b = some h') : i < h.next ∧ h.base ≤ i ∧ h'.next = h.next ∧ h'.base = h.base ∧ ∀ id, h'.get id = if id = i then b else h.get id := by
  rw [H.put_eq] at e
  split at e
  · rename_i hlt
    injection e with e; subst e
    refine ⟨hlt.1, hlt.2, rfl, rfl, fun id => ?_⟩
    rw [H.get_eq, H.get_eq]
    simp only [Tr.get_set]
    split <;> split <;> first | rfl | omega | simp_all
  · cases e
theorem put_ok {h : H} {i : Nat} (b : Blk) (h1 : i < h.next) (h2 : h.base ≤ i) : ∃ h', h.put i b = some h' := ⟨_, by rw [H.put_eq, if_pos ⟨h1, h2⟩]⟩
theorem push_ok (h : H) (b : Blk) : ∃ h', h.push b = some (h.next, h') := by unfold H.push; exact ⟨_, rfl⟩
/-- an iterator over map m, that stands as es (told at first: es0), has gone over 'seen' -/
structure Iter (m r : Nat) (es0 : List (AV × AV)) (es : List (AV × AV × Nat)) (clock : Nat) (seen : List Nat) (h : H) : Prop where
  mp : h.get m = .amap es clock
  it : h.get r = .miter (some m) clock seen clock
  shown : Shown es0 es clock
theorem Iter.ne {m r : Nat} {es0 : List (AV × AV)} {es : List (AV × AV × Nat)} {clock : Nat} {seen : List Nat} {h : H} (i : Iter m r es0 es clock seen h) : m ≠ r := by
  intro e; subst e; have := i.it; rw [i.mp] at this; cases this
/-- the next round, or the end -/
theorem Iter.next {m r : Nat} {es0 : List (AV × AV)} {es : List (AV × AV × Nat)} {clock : Nat} {seen : List Nat} {h : H} (i : Iter m r es0 es clock seen h) {k : AV → H → Prop}
    (hgo : ∀ e ∈ es, e.2.2 ∉ seen → ∃ h', h.put r (.miter (some m) clock (seen ++ [e.2.2]) clock) = some h' ∧ k (.tuple [.bool true, e.1, e.2.1]) h')
    (hend : (∀ e ∈ es, e.2.2 ∈ seen) → ∃ h1 h2, h.put m (.smap es0) = some h1 ∧ h1.put r .dead = some h2 ∧ k (.tuple [.bool false]) h2) : aNext (.ptr r 0) h k := by
  unfold aNext
  simp only [i.it, i.mp]
  have hst : (!seen.isEmpty && !es.isEmpty && es.all (fun e => Nat.ble clock e.2.2)) = false := by
    cases es with
    | nil => simp
    | cons e l =>
      have := i.shown.low e List.mem_cons_self
      have hb : Nat.ble clock e.2.2 = false := by
        cases hc : Nat.ble clock e.2.2 with
        | false => rfl
        | true => rw [ble_iff] at hc; omega
      simp [hb]
  rw [hst]
  simp only
  intro c hc
  unfold aCands at hc
  have hold : ∀ e ∈ es, Nat.blt e.2.2 clock = true := fun e he => by rw [blt_iff]; exact i.shown.low e he
  have e1 : ((es.filter fun e => !hasN seen e.2.2).filter fun e => Nat.blt e.2.2 clock) = es.filter fun e => !hasN seen e.2.2 := by
    rw [List.filter_eq_self]; intro e he; exact hold e (List.mem_filter.1 he).1
  have e2 : ((es.filter fun e => !hasN seen e.2.2).filter fun e => !Nat.blt e.2.2 clock) = [] := by
    rw [List.filter_eq_nil_iff]; intro e he; simp [hold e (List.mem_filter.1 he).1]
  simp only [e1, e2, List.append_nil] at hc
  rcases List.mem_append.1 hc with hc | hc
  · split at hc
    · rename_i hnil
      simp at hc; subst hc
      refine .inr ?_
      obtain ⟨h1, h2, p1, p2, p3⟩ := hend (fun e he => by
        have := (List.filter_eq_nil_iff.1 hnil) e he
        simpa [hasN_eq] using this)
      exact ⟨es0, h1, h2, i.shown, p1, p2, p3⟩
    · cases hc
  · obtain ⟨e, he, rfl⟩ := List.mem_map.1 hc
    obtain ⟨he, hs⟩ := List.mem_filter.1 he
    obtain ⟨x, v, n⟩ := e
    obtain ⟨h', p1, p2⟩ := hgo (x, v, n) he (by simpa [hasN_eq] using hs)
    simp only [lapp_eq, p1]
    exact p2
/-- what 'next' gave, is what is read -/
theorem find_stamp {es : List (AV × AV × Nat)} (hs : (es.map (·.2.2)).Nodup) {e : AV × AV × Nat} (he : e ∈ es) : es.find? (fun x => Nat.beq x.2.2 e.2.2) = some e := by
  induction es with
  | nil => cases he
  | cons a l ih =>
    rw [List.map_cons, List.nodup_cons] at hs
    rw [List.find?_cons]
    rcases List.mem_cons.1 he with rfl | he
    · have : Nat.beq e.2.2 e.2.2 = true := by rw [Nat.beq_eq]
      rw [this]
    · have : Nat.beq a.2.2 e.2.2 = false := by
        cases hb : Nat.beq a.2.2 e.2.2 with
        | false => rfl
        | true => rw [Nat.beq_eq] at hb; exact absurd (List.mem_map.2 ⟨e, he, hb.symm⟩) hs.1
      rw [this]; exact ih hs.2 he
theorem Iter.entry {m r : Nat} {es0 : List (AV × AV)} {es : List (AV × AV × Nat)} {clock : Nat} {seen : List Nat} {e : AV × AV × Nat} {h : H} (i : Iter m r es0 es clock (seen ++ [e.2.2]) h) (he : e ∈ es) : aEntry (.ptr r 0) h = some (.tuple [e.1, e.2.1]) := by
  unfold aEntry
  have : Nat.beq clock clock = true := by rw [Nat.beq_eq]
  simp only [i.it, i.mp, this, List.getLast?_append, List.getLast?_singleton, Option.some_or, find_stamp i.shown.stamps he]
theorem Iter.step {m r : Nat} {es0 : List (AV × AV)} {es : List (AV × AV × Nat)} {clock : Nat} {seen seen' : List Nat} {h h' : H} (i : Iter m r es0 es clock seen h) (hp : h.put r (.miter (some m) clock seen' clock) = some h') : Iter m r es0 es clock seen' h' := by
  obtain ⟨_, _, _, _, g⟩ := hput_get hp
  exact ⟨by rw [g, if_neg i.ne]; exact i.mp, by rw [g, if_pos rfl], i.shown⟩
/-- what is still to come -/
def rest (seen : List Nat) (es : List (AV × AV × Nat)) : List (AV × AV × Nat) := es.filter fun e => !seen.contains e.2.2
theorem rest_step {es : List (AV × AV × Nat)} (hs : (es.map (·.2.2)).Nodup) {e : AV × AV × Nat} (he : e ∈ es) {seen : List Nat} (hn : e.2.2 ∉ seen) : (rest seen es).Perm (e :: rest (seen ++ [e.2.2]) es) := by
  induction es with
  | nil => cases he
  | cons a l ih =>
    rw [List.map_cons, List.nodup_cons] at hs
    rcases List.mem_cons.1 he with rfl | he
    · have h1 : rest (seen ++ [e.2.2]) l = rest seen l := by
        unfold rest
        apply List.filter_congr
        intro x hx
        have : x.2.2 ≠ e.2.2 := fun q => hs.1 (List.mem_map.2 ⟨x, hx, q⟩)
        simp [this]
      have h2 : rest seen (e :: l) = e :: rest seen l := by unfold rest; rw [List.filter_cons]; simp [hn]
      have h3 : rest (seen ++ [e.2.2]) (e :: l) = rest (seen ++ [e.2.2]) l := by unfold rest; rw [List.filter_cons]; simp
      rw [h2, h3, h1]
    · have hne : a.2.2 ≠ e.2.2 := fun q => hs.1 (List.mem_map.2 ⟨e, he, q.symm⟩)
      have ih := ih hs.2 he
      unfold rest at ih ⊢
      rw [List.filter_cons, List.filter_cons]
      by_cases ha : a.2.2 ∈ seen
      · simp only [List.contains_eq_mem, ha, decide_true, Bool.not_true, List.mem_append, true_or]
        simpa [List.contains_eq_mem] using ih
      · have hb : a.2.2 ∉ seen ++ [e.2.2] := by simp [ha, hne]
        simp only [List.contains_eq_mem, ha, hb, decide_false, Bool.not_false, if_true]
        refine .trans (.cons a ?_) (.swap _ _ _)
        simpa [List.contains_eq_mem] using ih
theorem rest_nil {es : List (AV × AV × Nat)} {seen : List Nat} (h : ∀ e ∈ es, e.2.2 ∈ seen) : rest seen es = [] := by
  unfold rest; rw [List.filter_eq_nil_iff]; intro e he; simp [h e he]
theorem rest_all (es : List (AV × AV × Nat)) : rest [] es = es := by
  unfold rest; rw [List.filter_eq_self]; intro e he; simp
end Go.Am
