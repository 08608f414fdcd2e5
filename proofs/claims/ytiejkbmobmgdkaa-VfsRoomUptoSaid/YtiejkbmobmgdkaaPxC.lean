/- What the calls of a file system do, told by cases: what a file holds behind steps, what a crash leaves, how raw steps are counted. No condition. -/
import Derived.Test.YtiejkbmobmgdkaaVxQ
namespace Go.Am
open Go
set_option linter.all false
/-- what steps write to a file -/
def cat (x : Int) : List Stp → List UInt8
  | [] => []
  | s :: l => (if s.kind = 0 ∧ s.file = x then s.bytes else []) ++ cat x l
theorem cat_app (x : Int) : ∀ (a b : List Stp), cat x (a ++ b) = cat x a ++ cat x b
  | [], b => rfl
  | s :: a, b => by
    show _ ++ cat x (a ++ b) = (_ ++ cat x a) ++ cat x b
    rw [cat_app x a b, List.append_assoc]
theorem cat_nil {x : Int} : ∀ {l : List Stp}, (∀ s ∈ l, s.kind = 0 → s.file ≠ x) → cat x l = []
  | [], _ => rfl
  | s :: l, h => by
    show (if s.kind = 0 ∧ s.file = x then s.bytes else []) ++ cat x l = []
    rw [if_neg fun c => h s List.mem_cons_self c.1 c.2, cat_nil fun r hr => h r (List.mem_cons_of_mem _ hr)]; rfl
theorem fbytes_step (t : Tre) (s : Stp) (x : Int) : fbytes (t.step s).files x = fbytes t.files x ++ (if s.kind = 0 ∧ s.file = x then s.bytes else []) := by
  unfold Tre.step
  by_cases h0 : s.kind = 0
  · rw [if_pos h0]
    show fbytes (fput t.files s.file (fbytes t.files s.file ++ s.bytes)) x = _
    rw [fbytes_fput]
    by_cases h1 : s.file = x
    · rw [if_pos h1, if_pos ⟨h0, h1⟩, h1]
    · rw [if_neg h1, if_neg fun c => h1 c.2, List.append_nil]
  · rw [if_neg h0, if_neg (show ¬ (s.kind = 0 ∧ s.file = x) from fun c => h0 c.1), List.append_nil]
    repeat' split
    all_goals rfl
theorem fbytes_steps (x : Int) : ∀ (l : List Stp) (t : Tre), fbytes (t.steps l).files x = fbytes t.files x ++ cat x l
  | [], t => (List.append_nil _).symm
  | s :: l, t => by
    show fbytes ((t.step s).steps l).files x = fbytes t.files x ++ (_ ++ cat x l)
    rw [fbytes_steps x l, fbytes_step, List.append_assoc]
theorem cat_crashed (fs : Fs) (k t : Nat) (x : Int) : cat x (fs.crashed k t) <+: cat x fs.wait := by
  by_cases hk : k < fs.wait.length
  · have e : fs.wait = fs.wait.take k ++ (fs.wait[k] :: fs.wait.drop (k + 1)) := by
      rw [← List.drop_eq_getElem_cons hk, List.take_append_drop]
    have e2 : cat x fs.wait = cat x (fs.wait.take k) ++ ((if fs.wait[k].kind = 0 ∧ fs.wait[k].file = x then fs.wait[k].bytes else []) ++ cat x (fs.wait.drop (k + 1))) := by
      conv => lhs; rw [e, cat_app]
      rfl
    unfold Fs.crashed
    rw [e2, cat_app, List.getElem?_eq_getElem hk]
    refine (List.prefix_append_right_inj _).2 ?_
    dsimp only
    by_cases h0 : fs.wait[k].kind = 0
    · rw [if_pos h0]
      show (if fs.wait[k].kind = 0 ∧ fs.wait[k].file = x then fs.wait[k].bytes.take _ else []) ++ [] <+: _
      rw [List.append_nil]
      by_cases h1 : fs.wait[k].file = x
      · rw [if_pos ⟨h0, h1⟩, if_pos ⟨h0, h1⟩]
        exact (List.take_prefix _ _).trans (List.prefix_append _ _)
      · rw [if_neg fun c => h1 c.2]; exact List.nil_prefix
    · rw [if_neg h0]; exact List.nil_prefix
  · unfold Fs.crashed
    rw [List.getElem?_eq_none (by omega), List.take_of_length_le (by omega), cat_app]
    show cat x fs.wait ++ [] <+: _
    rw [List.append_nil]; exact List.prefix_rfl
/-- the same but for what is pending, the power, and what is counted -/
structure Mild (fs fs' : Fs) : Prop where
  sure : fs'.sure = fs.sure
  room : fs'.room = fs.room
  next : fs'.next = fs.next
  fused : fs'.fused = fs.fused
theorem Mild.refl (fs : Fs) : Mild fs fs := ⟨rfl, rfl, rfl, rfl⟩
theorem Mild.trans {a b c : Fs} (h : Mild a b) (h' : Mild b c) : Mild a c := ⟨h'.sure.trans h.sure, h'.room.trans h.room, h'.next.trans h.next, h'.fused.trans h.fused⟩
/-- how raw steps are counted -/
structure Count (fs fs' : Fs) : Prop where
  up : fs.steps ≤ fs'.steps
  sum : fs.fused = true → fs'.left + fs'.steps = fs.left + fs.steps ∧ 0 ≤ fs'.left
  off : fs.off = false → fs'.off = true → fs.fused = true ∧ fs'.left = 0
  fused : fs'.fused = fs.fused
theorem Count.refl {fs : Fs} (h : fs.fused = true → 0 ≤ fs.left) : Count fs fs := ⟨Int.le_refl _, fun q => ⟨rfl, h q⟩, fun a b => (by rw [a] at b; cases b), rfl⟩
theorem raw_cases {fs : Fs} {N c : Nat} (i : Inv fs N c) (hN : N ≤ mostRoom) :
    (fs.raw.1 = 0 ∧ Mild fs fs.raw.2 ∧ fs.raw.2.wait = fs.wait ∧ fs.raw.2.off = fs.off ∧ fs.raw.2.steps = fs.steps + 1 ∧ (fs.fused = true → 0 < fs.left ∧ fs.raw.2.left = fs.left - 1)) ∨
    (fs.raw.1 = 7 ∧ fs.raw.2 = { fs with off := true } ∧ fs.fused = true ∧ fs.left = 0) := by
  rcases i.raw_or hN with ⟨e, h1, h2⟩ | ⟨e, h1⟩
  · exact .inr ⟨by rw [e], by rw [e], h1, h2⟩
  · refine .inl ⟨by rw [e], ?_, by rw [e], by rw [e], by rw [e], fun h => ⟨h1 h, by rw [e]; show (if fs.fused then fs.left - 1 else fs.left) = _; rw [h]; rfl⟩⟩
    rw [e]; exact ⟨rfl, rfl, rfl, rfl⟩
theorem raw_count {fs : Fs} {N c : Nat} (i : Inv fs N c) (hN : N ≤ mostRoom) : Count fs fs.raw.2 := by
  rcases raw_cases i hN with ⟨_, m, _, h2, h3, h4⟩ | ⟨_, e, h1, h2⟩
  · refine ⟨by omega, fun h => ?_, fun a b => ?_, m.fused⟩
    · have := h4 h; omega
    · rw [h2, a] at b; cases b
  · rw [e]
    exact ⟨Int.le_refl _, fun h => ⟨rfl, (i.lf h).1⟩, fun _ _ => ⟨h1, h2⟩, rfl⟩
theorem pend_cases {fs : Fs} {N c : Nat} (i : Inv fs N c) (hN : N ≤ mostRoom) (s : Stp) :
    ((fs.pend s).1 = 0 ∧ Mild fs (fs.pend s).2 ∧ (fs.pend s).2.wait = fs.wait ++ [s] ∧ (fs.pend s).2.off = fs.off) ∨
    ((fs.pend s).1 = 7 ∧ Mild fs (fs.pend s).2 ∧ (fs.pend s).2.wait = fs.wait ∧ (fs.pend s).2.off = true ∧ fs.fused = true) := by
  unfold Fs.pend
  rcases raw_cases i hN with ⟨h, m, _, h2, h3, h4⟩ | ⟨h, e, h1, h2⟩
  · rw [if_pos h]
    exact .inl ⟨rfl, ⟨m.sure, m.room, m.next, m.fused⟩, rfl, h2⟩
  · rw [if_neg (by rw [h]; decide)]
    refine .inr ⟨h, ?_, ?_, ?_, h1⟩ <;> rw [e]
    exact ⟨rfl, rfl, rfl, rfl⟩
theorem pend_count {fs : Fs} {N c : Nat} (i : Inv fs N c) (hN : N ≤ mostRoom) (s : Stp) : Count fs (fs.pend s).2 := by
  have q := raw_count i hN
  unfold Fs.pend
  split
  · exact ⟨q.up, q.sum, q.off, q.fused⟩
  · exact q
theorem Count.trans {a b c : Fs} (h : Count a b) (h' : Count b c) (hb : b.off = true → c.off = true → c.left = b.left) : Count a c := by
  refine ⟨Int.le_trans h.up h'.up, fun f => ?_, fun o o' => ?_, h'.fused.trans h.fused⟩
  · have h1 := h.sum f
    have h2 := h'.sum (h.fused.trans f)
    omega
  · cases e : b.off with
    | true =>
      have h1 := h.off o e
      exact ⟨h1.1, by rw [hb e o']; exact h1.2⟩
    | false =>
      have h1 := h'.off e o'
      exact ⟨h.fused ▸ h1.1, h1.2⟩
theorem asked_on {fs : Fs} (h : fs.off = false) {l : List (List UInt8)} (hl : l.all named = true) : fs.asked l = 0 := by
  unfold Fs.asked
  rw [h, if_neg (by simp), if_pos hl]
theorem asked_zero {fs : Fs} {l : List (List UInt8)} (h : fs.asked l = 0) : fs.off = false ∧ l.all named = true := by
  unfold Fs.asked at h
  cases e : fs.off with
  | true => rw [e] at h; cases h
  | false =>
    refine ⟨rfl, ?_⟩
    rw [e] at h
    cases q : l.all named with
    | true => rfl
    | false => rw [q] at h; simp at h
theorem file_some {fs : Fs} (h : fs.off = false) {s : List UInt8} (hn : named s = true) {x : Int} (hx : nget fs.held.names s = some x) : fs.file s = (x, 0) := by
  unfold Fs.file
  rw [asked_on h (by simp [hn]), if_neg (by simp), hx]
theorem file_zero {fs : Fs} {s : List UInt8} (h : (fs.file s).2 = 0) : fs.off = false ∧ named s = true := by
  unfold Fs.file at h
  by_cases h1 : fs.asked [s] ≠ 0
  · rw [if_pos h1] at h; exact absurd h h1
  · have := asked_zero (Decidable.not_not.1 h1)
    exact ⟨this.1, by simpa using this.2⟩
/-- steps that write to a file, one piece each -/
def W (x : Int) (l : List Stp) : Prop := ∀ s ∈ l, s.kind = 0 ∧ s.file = x
theorem W.names {x : Int} {l : List Stp} (h : W x l) (ns : List (List UInt8 × Int)) : nsteps ns l = ns := nsteps_0 fun s hs => (h s hs).1
theorem W.other {x y : Int} {l : List Stp} (h : W x l) (hn : x ≠ y) : cat y l = [] := cat_nil fun s hs _ e => hn ((h s hs).2.symm.trans e)
theorem puts_cases {n : Int} {b : List UInt8} : ∀ {m j : Nat} {fs : Fs} {N c : Nat}, Inv fs N c → N + 73 * (b.length - j) ≤ mostRoom → b.length ≤ j + m →
    ∃ ws, W n ws ∧ Mild fs (fs.puts n b m j).2 ∧ (fs.puts n b m j).2.wait = fs.wait ++ ws ∧ cat n ws <+: b.drop j ∧
      (((fs.puts n b m j).1 = 0 ∧ cat n ws = b.drop j ∧ (fs.puts n b m j).2.off = fs.off) ∨ ((fs.puts n b m j).1 = 7 ∧ (fs.puts n b m j).2.off = true ∧ fs.fused = true))
  | 0, j, fs, N, c, i, h, hm => by
    have : b.drop j = [] := List.drop_eq_nil_of_le (by omega)
    exact ⟨[], fun _ q => (by cases q), Mild.refl _, (List.append_nil _).symm, List.nil_prefix, .inl ⟨rfl, this.symm, rfl⟩⟩
  | m + 1, j, fs, N, c, i, h, hm => by
    unfold Fs.puts
    by_cases hj : j < b.length
    · rw [if_pos hj]
      have hl : ((b.drop j).take 64).length = min 64 (b.length - j) := by simp
      have ip := i.pend (s := ⟨0, [], [], n, (b.drop j).take 64⟩) (by omega) (Nat.le_refl _) (i.held) (fun _ e => by
        have e : (b.drop j).take 64 = [] := e
        have := congrArg List.length e; rw [hl] at this; simp at this; omega)
      have hl : (({ kind := 0, name := [], to := [], file := n, bytes := (b.drop j).take 64 } : Stp).bytes).length = min 64 (b.length - j) := hl
      rw [hl] at ip
      have ew : ∀ l, cat n (⟨0, [], [], n, (b.drop j).take 64⟩ :: l) = (b.drop j).take 64 ++ cat n l := fun l => by
        show (if (0 : Int) = 0 ∧ n = n then _ else _) ++ _ = _
        rw [if_pos ⟨rfl, rfl⟩]
      have ed : b.drop j = (b.drop j).take 64 ++ b.drop (j + 64) := by
        rw [← List.drop_drop, List.take_append_drop]
      rcases pend_cases i (by omega) ⟨0, [], [], n, (b.drop j).take 64⟩ with ⟨h1, h2, h3, h4⟩ | ⟨h1, h2, h3, h4, h5⟩
      · rw [if_pos h1]
        obtain ⟨ws, w1, w2, w3, w4, w5⟩ := puts_cases (n := n) (b := b) (m := m) (j := j + 64) ip (by omega) (by omega)
        refine ⟨⟨0, [], [], n, (b.drop j).take 64⟩ :: ws, ?_, h2.trans w2, by rw [w3, h3, List.append_assoc]; rfl, ?_, ?_⟩
        · intro s hs
          rcases List.mem_cons.1 hs with rfl | hs
          · exact ⟨rfl, rfl⟩
          · exact w1 s hs
        · rw [ew, ed]; conv => lhs; rw [← ed]
          exact (List.prefix_append_right_inj _).2 w4
        · rcases w5 with ⟨a, b', c'⟩ | ⟨a, b', c'⟩
          · exact .inl ⟨a, by rw [ew, b', ← ed], by rw [c', h4]⟩
          · exact .inr ⟨a, b', by rw [h2.fused] at c'; exact c'⟩
      · rw [if_neg (by rw [h1]; decide)]
        exact ⟨[], fun _ q => (by cases q), h2, by rw [h3]; simp, List.nil_prefix, .inr ⟨h1, h4, h5⟩⟩
    · rw [if_neg hj]
      have : b.drop j = [] := List.drop_eq_nil_of_le (by omega)
      exact ⟨[], fun _ q => (by cases q), Mild.refl _, (List.append_nil _).symm, List.nil_prefix, .inl ⟨rfl, this.symm, rfl⟩⟩
/-- how many bytes named files hold -/
def used (fl : List (Int × List UInt8)) : List (List UInt8 × Int) → Nat
  | [] => 0
  | p :: l => (fbytes fl p.2).length + used fl l
theorem takeLeft_is {fl : List (Int × List UInt8)} : ∀ {l : List (List UInt8 × Int)} {n : Int}, -4611686018427387904 ≤ n - (used fl l : Int) → n < 4611686018427387904 → takeLeft fl l n = n - (used fl l : Int)
  | [], n, _, _ => by show n = n - 0; omega
  | p :: l, n, h1, h2 => by
    have e : ((used fl (p :: l) : Nat) : Int) = ((fbytes fl p.2).length : Int) + (used fl l : Int) := by
      show (((fbytes fl p.2).length + used fl l : Nat) : Int) = _
      omega
    rw [e] at h1 ⊢
    show takeLeft fl l (wrapF .i64 (Int.sub n (Int.ofNat (fbytes fl p.2).length))) = _
    have e2 : wrapF .i64 (Int.sub n (Int.ofNat (fbytes fl p.2).length)) = n - ((fbytes fl p.2).length : Int) := wrap_i64_in (by show _ ≤ n - _; simp only [Int.ofNat_eq_natCast]; omega) (by show n - _ < _; simp only [Int.ofNat_eq_natCast]; omega)
    rw [e2, takeLeft_is (by omega) (by omega)]
    omega
theorem used_le {fl : List (Int × List UInt8)} {N : Nat} (h : ∀ x, (fbytes fl x).length ≤ N) : ∀ l : List (List UInt8 × Int), used fl l ≤ l.length * N
  | [] => Nat.zero_le _
  | p :: l => by
    have := used_le h l
    have := h p.2
    show _ + used fl l ≤ (l.length + 1) * N
    rw [Nat.add_mul]; omega
theorem Inv.used {fs : Fs} {N c : Nat} (i : Inv fs N c) : used fs.held.files fs.held.names ≤ c * N := by
  obtain ⟨n, h1, h2⟩ := i.fit
  refine Nat.le_trans (used_le (N := N) (fun x => Nat.le_trans ((h1.steps (t := fs.sure) (l := fs.wait)).get x) h2) _) (Nat.mul_le_mul_right _ i.held.len)
theorem space_is {fs : Fs} {N c : Nat} (i : Inv fs N c) (h : c * N ≤ 4611686018427387904) (hr : 0 ≤ fs.room ∧ fs.room ≤ 1073741824) (ho : fs.off = false) : fs.space = fs.room - (used fs.held.files fs.held.names : Int) := by
  have := i.used
  unfold Fs.space
  rw [asked_on ho rfl, if_neg (by simp)]
  exact takeLeft_is (by omega) (by omega)
theorem append_cases {fs : Fs} {N c : Nat} (i : Inv fs N c) {s b : List UInt8} {x : Int} (hf : fs.file s = (x, 0)) (hs : (b.length : Int) ≤ fs.space) (h : N + 73 * b.length ≤ mostRoom) :
    ∃ ws, W x ws ∧ Mild fs (fs.append s b).2 ∧ (fs.append s b).2.wait = fs.wait ++ ws ∧ cat x ws <+: b ∧
      (((fs.append s b).1 = 0 ∧ cat x ws = b ∧ (fs.append s b).2.off = fs.off) ∨ ((fs.append s b).1 = 7 ∧ (fs.append s b).2.off = true ∧ fs.fused = true)) := by
  have e : fs.append s b = fs.puts x b b.length 0 := by
    unfold Fs.append
    rw [hf, if_neg (by simp), if_neg (by simp only [Int.ofNat_eq_natCast]; omega)]
  rw [e]
  exact puts_cases i h (by omega)
/-- what a crash leaves -/
theorem crash_is {fs : Fs} {N c : Nat} (i : Inv fs N c) {k t : Int} (hk : 0 ≤ k) (ht : 0 ≤ t) : (fs.crash k t).1 = 0 ∧ (fs.crash k t).2.off = false ∧ (fs.crash k t).2.fused = false ∧ (fs.crash k t).2.wait = [] ∧ (fs.crash k t).2.room = fs.room ∧ (fs.crash k t).2.next = fs.next ∧ (fs.crash k t).2.steps = fs.steps ∧
    (fs.crash k t).2.sure.names = nsteps fs.sure.names (fs.wait.take k.toNat) ∧ ∀ s x, nget (nsteps fs.sure.names (fs.wait.take k.toNat)) s = some x → fbytes (fs.crash k t).2.sure.files x = fbytes fs.sure.files x ++ cat x (fs.crashed k.toNat t.toNat) := by
  unfold Fs.crash
  rw [if_neg (by omega)]
  refine ⟨rfl, rfl, rfl, rfl, rfl, rfl, rfl, ?_, fun s x h => ?_⟩
  · show (fs.sure.steps (fs.crashed k.toNat t.toNat)).names = _
    rw [steps_names, crashed_names]
  · show fbytes (keepF (fs.sure.steps (fs.crashed k.toNat t.toNat)).files (fs.sure.steps (fs.crashed k.toNat t.toNat)).names []) x = _
    have en : (fs.sure.steps (fs.crashed k.toNat t.toNat)).names = nsteps fs.sure.names (fs.wait.take k.toNat) := by rw [steps_names, crashed_names]
    rw [en, fbytes_keepF (i.nm k.toNat) h, fbytes_steps]
theorem read_is {fs : Fs} (ho : fs.off = false) {s : List UInt8} (hn : named s = true) {x : Int} (hx : nget fs.held.names s = some x) : fs.read s = (fbytes fs.held.files x, 0) := by
  unfold Fs.read
  rw [file_some ho hn hx, if_neg (by simp)]
theorem held_nil {fs : Fs} (h : fs.wait = []) : fs.held = fs.sure := by unfold Fs.held; rw [h]; rfl
/-- what is read behind a crash -/
theorem read_crash {fs : Fs} {N c : Nat} (i : Inv fs N c) {k t : Int} (hk : 0 ≤ k) (ht : 0 ≤ t) {s : List UInt8} (hn : named s = true) {x : Int} (hx : nget (nsteps fs.sure.names (fs.wait.take k.toNat)) s = some x) :
    (fs.crash k t).2.read s = (fbytes fs.sure.files x ++ cat x (fs.crashed k.toNat t.toNat), 0) := by
  obtain ⟨_, h2, _, h4, _, _, _, h8, h9⟩ := crash_is i hk ht
  rw [read_is h2 hn (x := x) (by rw [held_nil h4, h8]; exact hx), held_nil h4, h9 s x hx]
theorem settle_cases {fs : Fs} {N c : Nat} (i : Inv fs N c) (hN : N ≤ mostRoom) (p : Stp → Bool) :
    ((fs.settle p).1 = 0 ∧ (fs.settle p).2.sure = fs.sure.steps (fs.wait.filter p) ∧ (fs.settle p).2.wait = (fs.wait.filter fun s => !p s) ∧ (fs.settle p).2.room = fs.room ∧ (fs.settle p).2.next = fs.next ∧ (fs.settle p).2.fused = fs.fused ∧ (fs.settle p).2.off = fs.off ∧ (fs.settle p).2.steps = fs.steps + 1) ∨
    ((fs.settle p).1 = 7 ∧ (fs.settle p).2 = { fs with off := true } ∧ fs.fused = true) := by
  unfold Fs.settle
  rcases raw_cases i hN with ⟨h, m, h1, h2, h3, h4⟩ | ⟨h, e, h1, h2⟩
  · rw [if_pos h]
    exact .inl ⟨rfl, rfl, rfl, m.room, m.next, m.fused, h2, h3⟩
  · rw [if_neg (by rw [h]; decide)]
    exact .inr ⟨h, e, h1⟩
theorem settle_count {fs : Fs} {N c : Nat} (i : Inv fs N c) (hN : N ≤ mostRoom) (p : Stp → Bool) : Count fs (fs.settle p).2 := by
  have q := raw_count i hN
  unfold Fs.settle
  split
  · exact ⟨q.up, q.sum, q.off, q.fused⟩
  · exact q
end Go.Am
