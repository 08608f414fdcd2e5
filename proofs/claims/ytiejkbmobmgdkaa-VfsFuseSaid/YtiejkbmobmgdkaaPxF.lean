/- How raw steps are counted, call by call. No condition. -/
import Derived.Test.YtiejkbmobmgdkaaPxE
namespace Go.Am
open Go
set_option linter.all false
structure Op1 (fs fs' : Fs) : Prop where
  count : Count fs fs'
  off : fs.off = true → fs' = fs
theorem Op1.same {fs : Fs} {N c : Nat} (i : Inv fs N c) : Op1 fs fs := ⟨Count.refl fun h => (i.lf h).1, fun _ => rfl⟩
theorem Op1.trans {a b c : Fs} (h : Op1 a b) (h' : Op1 b c) : Op1 a c :=
  ⟨h.count.trans h'.count fun o _ => by rw [h'.off o], fun o => by
    have e := h.off o
    rw [h'.off (by rw [e]; exact o), e]⟩
theorem asked_not {fs : Fs} {l : List (List UInt8)} (h : ¬ fs.asked l ≠ 0) : fs.off = false := (asked_zero (Decidable.not_not.1 h)).1
theorem file_not {fs : Fs} {s : List UInt8} (h : ¬ (fs.file s).2 ≠ 0) : fs.off = false := (file_zero (Decidable.not_not.1 h)).1
theorem Op1.on {fs fs' : Fs} (h : fs.off = false) (c : Count fs fs') : Op1 fs fs' := ⟨c, fun o => by rw [h] at o; cases o⟩
theorem Op1.create {fs : Fs} {N c : Nat} (i : Inv fs N c) (hN : N ≤ mostRoom) (s : List UInt8) : Op1 fs (fs.create s).2 := by
  unfold Fs.create
  split
  · exact .same i
  rename_i h
  split
  · exact .same i
  have q := pend_count i hN ⟨1, s, [], fs.next, []⟩
  exact .on (asked_not h) ⟨q.up, q.sum, q.off, q.fused⟩
theorem Op1.rename {fs : Fs} {N c : Nat} (i : Inv fs N c) (hN : N ≤ mostRoom) (a b : List UInt8) : Op1 fs (fs.rename a b).2 := by
  unfold Fs.rename
  split
  · exact .same i
  rename_i h
  split
  · exact .same i
  exact .on (asked_not h) (pend_count i hN _)
theorem Op1.remove {fs : Fs} {N c : Nat} (i : Inv fs N c) (hN : N ≤ mostRoom) (a : List UInt8) : Op1 fs (fs.remove a).2 := by
  unfold Fs.remove
  split
  · exact .same i
  rename_i h
  exact .on (file_not h) (pend_count i hN _)
theorem Op1.sync {fs : Fs} {N c : Nat} (i : Inv fs N c) (hN : N ≤ mostRoom) (a : List UInt8) : Op1 fs (fs.sync a).2 := by
  unfold Fs.sync
  split
  · exact .same i
  rename_i h
  exact .on (file_not h) (settle_count i hN _)
theorem Op1.syncNames {fs : Fs} {N c : Nat} (i : Inv fs N c) (hN : N ≤ mostRoom) : Op1 fs fs.syncNames.2 := by
  unfold Fs.syncNames
  split
  · exact .same i
  rename_i h
  exact .on (asked_not h) (settle_count i hN _)
theorem puts_count {n : Int} {b : List UInt8} : ∀ {m j : Nat} {fs : Fs} {N c : Nat}, Inv fs N c → N + 73 * (b.length - j) ≤ mostRoom → fs.off = false → Count fs (fs.puts n b m j).2
  | 0, j, fs, N, c, i, h, ho => Count.refl fun h => (i.lf h).1
  | m + 1, j, fs, N, c, i, h, ho => by
    unfold Fs.puts
    by_cases hj : j < b.length
    · rw [if_pos hj]
      have hl : ((b.drop j).take 64).length = min 64 (b.length - j) := by simp
      have ip := i.pend (s := ⟨0, [], [], n, (b.drop j).take 64⟩) (by omega) (Nat.le_refl _) (i.held) (fun _ e => by
        have e : (b.drop j).take 64 = [] := e
        have := congrArg List.length e; rw [hl] at this; simp at this; omega)
      have hl : (({ kind := 0, name := [], to := [], file := n, bytes := (b.drop j).take 64 } : Stp).bytes).length = min 64 (b.length - j) := hl
      rw [hl] at ip
      have q := pend_count i (by omega) ⟨0, [], [], n, (b.drop j).take 64⟩
      rcases pend_cases i (by omega) ⟨0, [], [], n, (b.drop j).take 64⟩ with ⟨h1, h2, h3, h4⟩ | ⟨h1, h2, h3, h4, h5⟩
      · rw [if_pos h1]
        refine q.trans (puts_count (m := m) (j := j + 64) ip (by omega) (h4.trans ho)) fun o => ?_
        rw [h4, ho] at o; cases o
      · rw [if_neg (by rw [h1]; decide)]; exact q
    · rw [if_neg hj]; exact Count.refl fun h => (i.lf h).1
theorem Op1.append {fs : Fs} {N c : Nat} (i : Inv fs N c) (s b : List UInt8) (h : N + 73 * b.length ≤ mostRoom) : Op1 fs (fs.append s b).2 := by
  unfold Fs.append
  split
  · exact .same i
  rename_i h1
  split
  · exact .same i
  exact .on (file_not h1) (puts_count i h (file_not h1))
theorem setup6 {n : Int} (hn : 0 ≤ n) : ((Fs.new 1048576).create [97]).1 = 0 ∧ (((Fs.new 1048576).create [97]).2.create [98]).1 = 0 ∧ ((((Fs.new 1048576).create [97]).2.create [98]).2.fuse n).1 = 0 ∧
    ((((Fs.new 1048576).create [97]).2.create [98]).2.fuse n).2.off = false ∧ ((((Fs.new 1048576).create [97]).2.create [98]).2.fuse n).2.fused = true ∧ ((((Fs.new 1048576).create [97]).2.create [98]).2.fuse n).2.left = n := by
  have hm : mostRoom = 140737488355328 := rfl
  have na : named [97] = true := by decide
  have nb : named [98] = true := by decide
  have i0 := Fs.new_inv 1048576
  have i1 := i0.create (by omega) (by omega) [97]
  have c1 := create_cases i0 (by omega) (by omega) rfl na (show nget (Fs.new 1048576).held.names [97] = none from rfl)
  generalize (Fs.new 1048576).create [97] = r1 at c1 i1 ⊢
  rcases c1 with ⟨a1, a2, a3, a4, a5, a6, a7⟩ | ⟨_, _, _, a⟩
  rotate_left
  · cases a
  have a2 : r1.2.sure = ⟨[], []⟩ := a2
  have a3 : r1.2.wait = [mkS [97] 0] := a3
  have a6 : r1.2.fused = false := a6
  have c2 := create_cases i1 (by omega) (by omega) a4 nb (show nget r1.2.held.names [98] = none by unfold Fs.held; rw [a2, a3]; rfl)
  generalize r1.2.create [98] = r2 at c2 ⊢
  rcases c2 with ⟨b1, b2, b3, b4, b5, b6, b7⟩ | ⟨_, _, _, b⟩
  rotate_left
  · rw [a6] at b; cases b
  have : r2.2.fuse n = (0, { r2.2 with fused := true, left := n }) := by unfold Fs.fuse; rw [asked_on b4 rfl, if_neg (by simp), if_neg (by omega)]
  rw [this]
  exact ⟨a1, b1, rfl, b4, rfl, rfl⟩
/-- behind a crash: on, without a fuse; two more raw steps -/
theorem after6 {fs : Fs} {N c : Nat} (i : Inv fs N c) (hN : N + 2 ≤ mostRoom) : (fs.crash 0 0).1 = 0 ∧ (fs.crash 0 0).2.off = false ∧ (fs.crash 0 0).2.steps = fs.steps ∧ (fs.crash 0 0).2.syncNames.1 = 0 ∧ (fs.crash 0 0).2.syncNames.2.syncNames.1 = 0 ∧ (fs.crash 0 0).2.syncNames.2.syncNames.2.steps = fs.steps + 2 := by
  obtain ⟨c1, c2, c3, c4, c5, c6, c7, _⟩ := crash_is i (k := 0) (t := 0) (by omega) (by omega)
  have i1 := i.crash 0 0
  have i2 := i1.syncNames (by omega)
  generalize fs.crash 0 0 = r at *
  rw [syncNames_on c2] at i2 ⊢
  rcases settle_cases i1 (by omega) kNames with ⟨d1, d2, d3, d4, d5, d6, d7, d8⟩ | ⟨_, _, d⟩
  rotate_left
  · rw [c3] at d; cases d
  generalize r.2.settle kNames = r2 at *
  rw [syncNames_on (d7.trans c2)]
  rcases settle_cases i2 (by omega) kNames with ⟨e1, e2, e3, e4, e5, e6, e7, e8⟩ | ⟨_, _, e⟩
  rotate_left
  · rw [d6, c3] at e; cases e
  exact ⟨c1, c2, c7, d1, e1, by rw [e8, d8, c7]; omega⟩
end Go.Am
