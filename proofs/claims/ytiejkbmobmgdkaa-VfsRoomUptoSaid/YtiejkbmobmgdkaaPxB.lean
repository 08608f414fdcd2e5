/- What holds of a file system behind any calls: it fits, its names are good, each pending write has bytes, its numbers stay small. No condition. -/
import Derived.Test.YtiejkbmobmgdkaaPxA
namespace Go.Am
open Go
set_option linter.all false
def nstep (l : List (List UInt8 × Int)) (s : Stp) : List (List UInt8 × Int) :=
  if s.kind = 0 then l
  else if s.kind = 1 then nput l s.name s.file
  else if s.kind = 2 then if s.name = s.to then l else ndel (nput l s.to (nfile l s.name)) s.name
  else if s.kind = 3 then ndel l s.name
  else l
def nsteps (l : List (List UInt8 × Int)) (ss : List Stp) : List (List UInt8 × Int) := ss.foldl nstep l
theorem step_names (t : Tre) (s : Stp) : (t.step s).names = nstep t.names s := by
  unfold Tre.step nstep
  repeat' split
  all_goals rfl
theorem steps_names : ∀ (ss : List Stp) (t : Tre), (t.steps ss).names = nsteps t.names ss
  | [], t => rfl
  | s :: ss, t => by
    show ((t.step s).steps ss).names = nsteps (nstep t.names s) ss
    rw [steps_names ss, step_names]
theorem nsteps_app (l : List (List UInt8 × Int)) (a b : List Stp) : nsteps l (a ++ b) = nsteps (nsteps l a) b := by simp [nsteps]
theorem steps_app (t : Tre) (a b : List Stp) : t.steps (a ++ b) = (t.steps a).steps b := by simp [Tre.steps]
theorem nstep_0 {l : List (List UInt8 × Int)} {s : Stp} (h : s.kind = 0) : nstep l s = l := by unfold nstep; rw [if_pos h]
theorem nsteps_0 : ∀ {ss : List Stp} {l : List (List UInt8 × Int)}, (∀ s ∈ ss, s.kind = 0) → nsteps l ss = l
  | [], _, _ => rfl
  | s :: ss, l, h => by
    show nsteps (nstep l s) ss = l
    rw [nstep_0 (h s List.mem_cons_self)]
    exact nsteps_0 fun r hr => h r (List.mem_cons_of_mem _ hr)
/-- steps that leave no trace in the names may be left out -/
theorem nsteps_filter {p : Stp → Bool} (hp : ∀ s, p s = false → s.kind = 0) : ∀ {ss : List Stp} {l : List (List UInt8 × Int)}, nsteps l (ss.filter p) = nsteps l ss
  | [], _ => rfl
  | s :: ss, l => by
    cases h : p s with
    | true =>
      rw [List.filter_cons_of_pos h]
      exact nsteps_filter hp
    | false =>
      rw [List.filter_cons_of_neg (by rw [h]; simp)]
      rw [nsteps_filter hp]
      show _ = nsteps (nstep l s) ss
      rw [nstep_0 (hp s h)]
theorem filter_take_ex {p : Stp → Bool} : ∀ (ss : List Stp) (j : Nat), ∃ j', (ss.filter p).take j = (ss.take j').filter p
  | [], j => ⟨0, by simp⟩
  | s :: ss, j => by
    cases h : p s with
    | false =>
      obtain ⟨j', e⟩ := filter_take_ex (p := p) ss j
      exact ⟨j' + 1, by rw [List.filter_cons_of_neg (by rw [h]; simp), List.take_succ_cons, List.filter_cons_of_neg (by rw [h]; simp), e]⟩
    | true =>
      rw [List.filter_cons_of_pos h]
      cases j with
      | zero => exact ⟨0, rfl⟩
      | succ j =>
        obtain ⟨j', e⟩ := filter_take_ex (p := p) ss j
        exact ⟨j' + 1, by rw [List.take_succ_cons, List.take_succ_cons, List.filter_cons_of_pos h, e]⟩
theorem wsum_split (p : Stp → Bool) : ∀ l : List Stp, wsum (l.filter p) + wsum (l.filter fun s => !p s) = wsum l
  | [] => rfl
  | s :: l => by
    have := wsum_split p l
    cases h : p s with
    | true => rw [List.filter_cons_of_pos h, List.filter_cons_of_neg (by rw [h]; simp), wsum_cons, wsum_cons]; omega
    | false => rw [List.filter_cons_of_neg (by rw [h]; simp), List.filter_cons_of_pos (by rw [h]; simp), wsum_cons, wsum_cons]; omega
/-- what holds behind any calls -/
structure Inv (fs : Fs) (N c : Nat) : Prop where
  fit : fs.Fits N
  nm : ∀ j, GoodN fs.next c (nsteps fs.sure.names (fs.wait.take j))
  full : ∀ s ∈ fs.wait, s.kind = 0 → s.bytes ≠ []
  nx : 0 ≤ fs.next ∧ fs.next ≤ (c : Int)
  st : 0 ≤ fs.steps ∧ fs.steps ≤ (N : Int)
  lf : fs.fused = true → 0 ≤ fs.left ∧ fs.left < 9223372036854775808
theorem Inv.mono {fs : Fs} {N c N' c' : Nat} (i : Inv fs N c) (h1 : N ≤ N') (h2 : c ≤ c') : Inv fs N' c' :=
  ⟨i.fit.mono h1, fun j => (i.nm j).mono (Int.le_refl _) h2, i.full, ⟨i.nx.1, by have := i.nx.2; omega⟩, ⟨i.st.1, by have := i.st.2; omega⟩, i.lf⟩
theorem Inv.held {fs : Fs} {N c : Nat} (i : Inv fs N c) : GoodN fs.next c fs.held.names := by
  have := i.nm fs.wait.length
  rw [List.take_length] at this
  unfold Fs.held
  rw [steps_names]; exact this
theorem Inv.sure {fs : Fs} {N c : Nat} (i : Inv fs N c) : GoodN fs.next c fs.sure.names := i.nm 0
/-- a raw step: the fuse is burnt down, or one step more is done -/
theorem Inv.raw_or {fs : Fs} {N c : Nat} (i : Inv fs N c) (hN : N ≤ mostRoom) :
    (fs.raw = (7, { fs with off := true }) ∧ fs.fused = true ∧ fs.left = 0) ∨ (fs.raw = (0, { fs with left := if fs.fused then fs.left - 1 else fs.left, steps := fs.steps + 1 }) ∧ (fs.fused = true → 0 < fs.left)) := by
  have hm : mostRoom = 140737488355328 := rfl
  obtain ⟨s1, s2⟩ := i.st
  have e : wrapF .i64 (Int.add fs.steps 1) = fs.steps + 1 := wrap_i64_in (by show _ ≤ fs.steps + 1; omega) (by show fs.steps + 1 < _; omega)
  unfold Fs.raw
  rw [e]
  cases hf : fs.fused with
  | false => exact .inr ⟨rfl, fun h => by cases h⟩
  | true =>
    obtain ⟨l1, l2⟩ := i.lf hf
    by_cases h0 : fs.left = 0
    · rw [decide_eq_true h0]; exact .inl ⟨rfl, rfl, h0⟩
    · rw [decide_eq_false h0]
      have e2 : wrapF .i64 (Int.sub fs.left 1) = fs.left - 1 := wrap_i64_in (by show _ ≤ fs.left - 1; omega) (by show fs.left - 1 < _; omega)
      refine .inr ⟨?_, fun _ => by omega⟩
      rw [e2]; rfl
theorem Inv.off {fs : Fs} {N c : Nat} (i : Inv fs N c) (b : Bool) : Inv { fs with off := b } N c := ⟨i.fit, i.nm, i.full, i.nx, i.st, i.lf⟩
theorem Inv.raw {fs : Fs} {N c : Nat} (i : Inv fs N c) (hN : N ≤ mostRoom) : Inv fs.raw.2 (N + 1) c := by
  rcases i.raw_or hN with ⟨e, _, _⟩ | ⟨e, hl⟩
  · rw [e]; exact (i.off true).mono (by omega) (Nat.le_refl _)
  · rw [e]
    refine ⟨i.fit.mono (by omega), i.nm, i.full, i.nx, ?_, fun hf => ?_⟩
    · have := i.st; show 0 ≤ fs.steps + 1 ∧ fs.steps + 1 ≤ _; omega
    · have hf : fs.fused = true := hf
      have h1 := hl hf
      have h2 := i.lf hf
      show 0 ≤ (if fs.fused then fs.left - 1 else fs.left) ∧ (if fs.fused then fs.left - 1 else fs.left) < _
      rw [hf]
      show 0 ≤ fs.left - 1 ∧ fs.left - 1 < _
      omega
theorem raw_next (fs : Fs) : fs.raw.2.next = fs.next := by unfold Fs.raw; split <;> rfl
theorem Inv.pend {fs : Fs} {N c c' : Nat} {s : Stp} (i : Inv fs N c) (hN : N ≤ mostRoom) (hc : c ≤ c') (hs : GoodN fs.next c' (nstep fs.held.names s)) (hb : s.kind = 0 → s.bytes ≠ []) : Inv (fs.pend s).2 (N + (s.bytes.length + 72)) c' := by
  have ir := i.raw hN
  have fp := i.fit.pend s
  unfold Fs.pend at fp ⊢
  split
  · rename_i h0
    rw [if_pos h0] at fp
    refine ⟨fp, fun j => ?_, fun r hr => ?_, ?_, ?_, ?_⟩
    · show GoodN fs.raw.2.next c' (nsteps fs.raw.2.sure.names ((fs.wait ++ [s]).take j))
      rw [raw_next, Fs.raw_sure]
      by_cases hj : j ≤ fs.wait.length
      · rw [List.take_append_of_le_length hj]; exact (i.nm j).mono (Int.le_refl _) hc
      · rw [List.take_of_length_le (by simp; omega), nsteps_app]
        have e : fs.held.names = nsteps fs.sure.names fs.wait := by unfold Fs.held; rw [steps_names]
        rw [← e]; exact hs
    · have hr : r ∈ fs.wait ++ [s] := hr
      rcases List.mem_append.1 hr with hr | hr
      · exact i.full r hr
      · rw [List.mem_singleton.1 hr]; exact hb
    · have := ir.nx; exact ⟨this.1, by have h2 := this.2; show fs.raw.2.next ≤ _; omega⟩
    · have := ir.st; exact ⟨this.1, by have h2 := this.2; show fs.raw.2.steps ≤ _; omega⟩
    · exact ir.lf
  · exact ir.mono (by omega) hc
theorem pend_next {fs : Fs} {s : Stp} {n : Int} : { (fs.pend s).2 with next := n } = (({ fs with next := n } : Fs).pend s).2 := by
  unfold Fs.pend Fs.raw
  dsimp only
  by_cases h : (fs.fused && decide (fs.left = 0)) = true
  · rw [if_pos h, if_pos h]; rfl
  · rw [if_neg h, if_neg h]; rfl
theorem pend_nx (fs : Fs) (s : Stp) : (fs.pend s).2.next = fs.next := by
  unfold Fs.pend
  split
  · exact raw_next fs
  · exact raw_next fs
theorem Inv.next {fs : Fs} {N c : Nat} (i : Inv fs N c) : Inv { fs with next := fs.next + 1 } N (c + 1) :=
  ⟨i.fit, fun j => (i.nm j).mono (by show fs.next ≤ fs.next + 1; omega) (by omega), i.full, by have := i.nx; show 0 ≤ fs.next + 1 ∧ fs.next + 1 ≤ _; omega, i.st, i.lf⟩
theorem named_of {fs : Fs} {l : List (List UInt8)} (h : ¬ fs.asked l ≠ 0) : l.all named = true := by
  have h := Decidable.not_not.1 h
  unfold Fs.asked at h
  split at h
  · cases h
  · split at h
    · assumption
    · cases h
theorem Inv.create {fs : Fs} {N c : Nat} (i : Inv fs N c) (hN : N ≤ mostRoom) (hc : c ≤ mostRoom) (s : List UInt8) : Inv (fs.create s).2 (N + 72) (c + 1) := by
  have hm : mostRoom = 140737488355328 := rfl
  unfold Fs.create
  split
  · exact i.mono (by omega) (by omega)
  rename_i hnm
  have hnm : named s = true := by simpa using named_of hnm
  split
  · exact i.mono (by omega) (by omega)
  show Inv { (fs.pend ⟨1, s, [], fs.next, []⟩).2 with next := wrapF .i64 (Int.add (fs.pend ⟨1, s, [], fs.next, []⟩).2.next 1) } _ _
  rw [pend_nx]
  have := i.nx
  rw [show wrapF .i64 (Int.add fs.next 1) = fs.next + 1 from wrap_i64_in (by show _ ≤ fs.next + 1; omega) (by show fs.next + 1 < _; omega)]
  rw [pend_next]
  refine (i.next.pend hN (Nat.le_refl _) ?_ (fun h => by cases h))
  show GoodN (fs.next + 1) (c + 1) (nstep fs.held.names ⟨1, s, [], fs.next, []⟩)
  exact i.held.put this.1 hnm
theorem file_ok {fs : Fs} {s : List UInt8} (h : (fs.file s).2 = 0) : nget fs.held.names s = some (fs.file s).1 := by
  unfold Fs.file at h ⊢
  by_cases h1 : fs.asked [s] ≠ 0
  · rw [if_pos h1] at h; exact absurd h h1
  · rw [if_neg h1] at h ⊢
    cases e : nget fs.held.names s with
    | none => rw [e] at h; cases h
    | some x => rfl
theorem Inv.rename {fs : Fs} {N c : Nat} (i : Inv fs N c) (hN : N ≤ mostRoom) (a b : List UInt8) : Inv (fs.rename a b).2 (N + 72) (c + 1) := by
  unfold Fs.rename
  split
  · exact i.mono (by omega) (by omega)
  rename_i hnm
  have hnm : named a = true ∧ named b = true := by simpa using named_of hnm
  split
  · exact i.mono (by omega) (by omega)
  rename_i h1
  have h1 := file_ok (Decidable.not_not.1 h1)
  refine i.pend hN (by omega) ?_ (fun h => by cases h)
  show GoodN _ _ (if a = b then fs.held.names else ndel (nput fs.held.names b (nfile fs.held.names a)) a)
  split
  · exact i.held.mono (Int.le_refl _) (by omega)
  · rename_i hab
    have : nfile fs.held.names a = (fs.file a).1 := by unfold nfile; rw [h1]; rfl
    rw [this]
    exact i.held.move h1 hab hnm.2
theorem Inv.remove {fs : Fs} {N c : Nat} (i : Inv fs N c) (hN : N ≤ mostRoom) (a : List UInt8) : Inv (fs.remove a).2 (N + 72) c := by
  unfold Fs.remove
  split
  · exact i.mono (by omega) (by omega)
  refine i.pend hN (Nat.le_refl _) ?_ (fun h => by cases h)
  exact i.held.del a
theorem Inv.puts {n : Int} {b : List UInt8} : ∀ {m j : Nat} {fs : Fs} {N c : Nat}, Inv fs N c → N + 73 * (b.length - j) ≤ mostRoom → Inv (fs.puts n b m j).2 (N + 73 * (b.length - j)) c
  | 0, j, fs, N, c, i, h => i.mono (by omega) (Nat.le_refl _)
  | m + 1, j, fs, N, c, i, h => by
    unfold Fs.puts
    by_cases hj : j < b.length
    · rw [if_pos hj]
      have hl : ((b.drop j).take 64).length = min 64 (b.length - j) := by simp
      have ip := i.pend (s := ⟨0, [], [], n, (b.drop j).take 64⟩) (by omega) (Nat.le_refl _) (i.held) (fun _ e => by
        have e : (b.drop j).take 64 = [] := e
        have := congrArg List.length e; rw [hl] at this; simp at this; omega)
      have hl : (({ kind := 0, name := [], to := [], file := n, bytes := (b.drop j).take 64 } : Stp).bytes).length = min 64 (b.length - j) := hl
      rw [hl] at ip
      split
      · exact (Inv.puts (m := m) (j := j + 64) ip (by omega)).mono (by omega) (Nat.le_refl _)
      · exact ip.mono (by omega) (Nat.le_refl _)
    · rw [if_neg hj]; exact i.mono (by omega) (Nat.le_refl _)
theorem Inv.append {fs : Fs} {N c : Nat} (i : Inv fs N c) (s b : List UInt8) (h : N + 73 * b.length ≤ mostRoom) : Inv (fs.append s b).2 (N + 73 * b.length) c := by
  unfold Fs.append
  split
  · exact i.mono (by omega) (Nat.le_refl _)
  split
  · exact i.mono (by omega) (Nat.le_refl _)
  exact i.puts h
theorem Inv.settle {fs : Fs} {N c : Nat} {p : Stp → Bool} (i : Inv fs N c) (hN : N ≤ mostRoom) (hp : (∀ s, p s = true → s.kind = 0) ∨ (∀ s, p s = !decide (s.kind = 0))) : Inv (fs.settle p).2 (N + 1) c := by
  have ir := i.raw hN
  unfold Fs.settle
  split
  · obtain ⟨n, h1, h2⟩ := i.fit
    refine ⟨⟨n + wsum (fs.wait.filter p), h1.steps (t := fs.sure), ?_⟩, fun j => ?_, fun r hr => i.full r (List.mem_filter.1 hr).1, ir.nx, ir.st, ir.lf⟩
    · show _ + wsum (fs.wait.filter fun s => !p s) ≤ _
      have := wsum_split p fs.wait; omega
    · show GoodN fs.raw.2.next c (nsteps (fs.sure.steps (fs.wait.filter p)).names ((fs.wait.filter fun s => !p s).take j))
      rw [raw_next, steps_names]
      rcases hp with hp | hp
      · rw [nsteps_0 fun s hs => hp s (List.mem_filter.1 hs).2]
        obtain ⟨j', e⟩ := filter_take_ex (p := fun s => !p s) fs.wait j
        rw [e, nsteps_filter fun s hs => hp s (by simpa using hs)]
        exact i.nm j'
      · rw [nsteps_filter (p := p) fun s hs => by rw [hp] at hs; simpa using hs]
        rw [nsteps_0 fun s hs => by
          have := (List.mem_filter.1 (List.mem_of_mem_take hs)).2
          rw [hp] at this; simpa using this]
        have := i.nm fs.wait.length
        rw [List.take_length] at this
        exact this
  · exact ir
theorem Inv.sync {fs : Fs} {N c : Nat} (i : Inv fs N c) (hN : N ≤ mostRoom) (s : List UInt8) : Inv (fs.sync s).2 (N + 1) c := by
  unfold Fs.sync
  split
  · exact i.mono (by omega) (Nat.le_refl _)
  · refine i.settle hN (.inl fun s hs => ?_)
    unfold kFile at hs
    rw [Bool.and_eq_true, decide_eq_true_iff] at hs
    exact hs.1
theorem Inv.syncNames {fs : Fs} {N c : Nat} (i : Inv fs N c) (hN : N ≤ mostRoom) : Inv fs.syncNames.2 (N + 1) c := by
  unfold Fs.syncNames
  split
  · exact i.mono (by omega) (Nat.le_refl _)
  · exact i.settle hN (.inr fun s => rfl)
theorem Inv.fuse {fs : Fs} {N c : Nat} (i : Inv fs N c) {n : Int} (hn : n < 9223372036854775808) : Inv (fs.fuse n).2 N c := by
  unfold Fs.fuse
  split
  · exact i
  split
  · exact i
  · rename_i h
    exact ⟨i.fit, i.nm, i.full, i.nx, i.st, fun _ => ⟨by show 0 ≤ n; omega, hn⟩⟩
theorem keepF_mem {fl : List (Int × List UInt8)} : ∀ {l : List (List UInt8 × Int)} {acc : List (Int × List UInt8)} {q : Int × List UInt8}, q ∈ keepF fl l acc → q ∈ acc ∨ q.2 = fbytes fl q.1
  | [], acc, q, h => .inl h
  | p :: l, acc, q, h => by
    have h : q ∈ keepF fl l (fins acc p.2 (fbytes fl p.2)) := h
    rcases keepF_mem h with h | h
    · rcases fins_mem h with rfl | h
      · exact .inr rfl
      · exact .inl h
    · exact .inr h
theorem crashed_names (fs : Fs) (k t : Nat) : nsteps fs.sure.names (fs.crashed k t) = nsteps fs.sure.names (fs.wait.take k) := by
  unfold Fs.crashed
  rw [nsteps_app]
  refine nsteps_0 fun s hs => ?_
  split at hs
  · rename_i r e
    split at hs
    · rename_i h; rw [List.mem_singleton.1 hs]; exact h
    · cases hs
  · cases hs
theorem crashed_sum (fs : Fs) (k t : Nat) : wsum (fs.crashed k t) ≤ wsum fs.wait := by
  unfold Fs.crashed
  rw [wsum_append]
  by_cases hk : k < fs.wait.length
  · have := wsum_take hk
    rw [List.getElem?_eq_getElem hk]
    dsimp only
    split
    · rw [wsum_cons]
      show _ + ((fs.wait[k].bytes.take (min t (fs.wait[k].bytes.length - 1))).length + 72 + wsum []) ≤ _
      rw [List.length_take]
      have e0 : wsum [] = 0 := rfl
      omega
    · have e0 : wsum [] = 0 := rfl
      omega
  · rw [List.getElem?_eq_none (by omega), List.take_of_length_le (by omega)]
    have e0 : wsum [] = 0 := rfl
    show _ + wsum [] ≤ _
    omega
theorem Inv.crash {fs : Fs} {N c : Nat} (i : Inv fs N c) (k t : Int) : Inv (fs.crash k t).2 N c := by
  unfold Fs.crash
  split
  · exact i
  obtain ⟨n, h1, h2⟩ := i.fit
  have hs := crashed_sum fs k.toNat t.toNat
  refine ⟨⟨n + wsum (fs.crashed k.toNat t.toNat), fun q hq => ?_, ?_⟩, fun j => ?_, fun s hs => (by cases hs), i.nx, i.st, fun h => (by cases h)⟩
  · rcases keepF_mem hq with hq | hq
    · cases hq
    · rw [hq]; exact (h1.steps (t := fs.sure)).get q.1
  · show _ + wsum [] ≤ _
    have e0 : wsum [] = 0 := rfl
    omega
  · show GoodN fs.next c (nsteps (fs.sure.steps (fs.crashed k.toNat t.toNat)).names (([] : List Stp).take j))
    rw [List.take_nil, steps_names, crashed_names]
    exact i.nm k.toNat
theorem fget_keepF {fl : List (Int × List UInt8)} {y : Int} : ∀ {l : List (List UInt8 × Int)} {acc : List (Int × List UInt8)}, (∀ p ∈ l, fget acc p.2 = none) → (l.map (·.2)).Nodup → fget (keepF fl l acc) y = if y ∈ l.map (·.2) then some (fbytes fl y) else fget acc y
  | [], acc, _, _ => by simp [keepF]
  | p :: l, acc, h, hd => by
    rw [List.map_cons, List.nodup_cons] at hd
    show fget (keepF fl l (fins acc p.2 (fbytes fl p.2))) y = _
    have hp := h p List.mem_cons_self
    rw [fget_keepF (fun r hr => by
      rw [fget_fins' hp, if_neg]
      · exact h r (List.mem_cons_of_mem _ hr)
      · intro e; exact hd.1 (e ▸ List.mem_map.2 ⟨r, hr, rfl⟩)) hd.2]
    rw [List.map_cons, fget_fins' hp]
    by_cases h1 : y ∈ l.map (·.2)
    · rw [if_pos h1, if_pos (List.mem_cons_of_mem _ h1)]
    · rw [if_neg h1]
      by_cases h2 : p.2 = y
      · rw [if_pos h2, if_pos (by rw [h2]; exact List.mem_cons_self), h2]
      · rw [if_neg h2, if_neg]
        intro c
        rcases List.mem_cons.1 c with c | c
        · exact h2 c.symm
        · exact h1 c
/-- what a named file holds is kept -/
theorem fbytes_keepF {fl : List (Int × List UInt8)} {l : List (List UInt8 × Int)} {nx : Int} {c : Nat} (g : GoodN nx c l) {s : List UInt8} {x : Int} (hs : nget l s = some x) : fbytes (keepF fl l []) x = fbytes fl x := by
  unfold fbytes
  rw [fget_keepF (fun _ _ => rfl) g.nodup, if_pos (List.mem_map.2 ⟨(s, x), nget_mem hs, rfl⟩)]
  rfl
end Go.Am
