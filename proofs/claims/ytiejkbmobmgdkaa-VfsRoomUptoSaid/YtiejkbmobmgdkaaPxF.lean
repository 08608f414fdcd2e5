/- How raw steps are counted, call by call. No condition. -/
import Derived.Test.YtiejkbmobmgdkaaPxE
namespace Go.Am
open Go
set_option linter.all false
structure Op1 (fs fs' : Fs) : Prop where
  count : Count fs fs'
  off : fs.off = true → fs' = fs
theorem Op1.same {fs : Fs} {N c : Nat} (i : Inv fs N c) : Op1 fs fs := ⟨Count.refl fun h => (i.lf h).1, fun _ => rfl⟩
theorem Op1.trans {a b c : Fs} (h : Op1 a b) (h' : Op1 b c) : Op1 a c :=
  ⟨h.count.trans h'.count fun o _ => by rw [h'.off o], fun o => by
    have e := h.off o
    rw [h'.off (by rw [e]; exact o), e]⟩
theorem asked_not {fs : Fs} {l : List (List UInt8)} (h : ¬ fs.asked l ≠ 0) : fs.off = false := (asked_zero (Decidable.not_not.1 h)).1
theorem file_not {fs : Fs} {s : List UInt8} (h : ¬ (fs.file s).2 ≠ 0) : fs.off = false := (file_zero (Decidable.not_not.1 h)).1
theorem Op1.on {fs fs' : Fs} (h : fs.off = false) (c : Count fs fs') : Op1 fs fs' := ⟨c, fun o => by rw [h] at o; cases o⟩
theorem Op1.create {fs : Fs} {N c : Nat} (i : Inv fs N c) (hN : N ≤ mostRoom) (s : List UInt8) : Op1 fs (fs.create s).2 := by
  unfold Fs.create
  split
  · exact .same i
  rename_i h
  split
  · exact .same i
  have q := pend_count i hN ⟨1, s, [], fs.next, []⟩
  exact .on (asked_not h) ⟨q.up, q.sum, q.off, q.fused⟩
theorem Op1.rename {fs : Fs} {N c : Nat} (i : Inv fs N c) (hN : N ≤ mostRoom) (a b : List UInt8) : Op1 fs (fs.rename a b).2 := by
  unfold Fs.rename
  split
  · exact .same i
  rename_i h
  split
  · exact .same i
  exact .on (asked_not h) (pend_count i hN _)
theorem Op1.remove {fs : Fs} {N c : Nat} (i : Inv fs N c) (hN : N ≤ mostRoom) (a : List UInt8) : Op1 fs (fs.remove a).2 := by
  unfold Fs.remove
  split
  · exact .same i
  rename_i h
  exact .on (file_not h) (pend_count i hN _)
theorem Op1.sync {fs : Fs} {N c : Nat} (i : Inv fs N c) (hN : N ≤ mostRoom) (a : List UInt8) : Op1 fs (fs.sync a).2 := by
  unfold Fs.sync
  split
  · exact .same i
  rename_i h
  exact .on (file_not h) (settle_count i hN _)
theorem Op1.syncNames {fs : Fs} {N c : Nat} (i : Inv fs N c) (hN : N ≤ mostRoom) : Op1 fs fs.syncNames.2 := by
  unfold Fs.syncNames
  split
  · exact .same i
  rename_i h
  exact .on (asked_not h) (settle_count i hN _)
theorem puts_count {n : Int} {b : List UInt8} : ∀ {m j : Nat} {fs : Fs} {N c : Nat}, Inv fs N c → N + 73 * (b.length - j) ≤ mostRoom → fs.off = false → Count fs (fs.puts n b m j).2
  | 0, j, fs, N, c, i, h, ho => Count.refl fun h => (i.lf h).1
  | m + 1, j, fs, N, c, i, h, ho => by
    unfold Fs.puts
    by_cases hj : j < b.length
    · rw [if_pos hj]
      have hl : ((b.drop j).take 64).length = min 64 (b.length - j) := by simp
      have ip := i.pend (s := ⟨0, [], [], n, (b.drop j).take 64⟩) (by omega) (Nat.le_refl _) (i.held) (fun _ e => by
        have e : (b.drop j).take 64 = [] := e
        have := congrArg List.length e; rw [hl] at this; simp at this; omega)
      have hl : (({ kind := 0, name := [], to := [], file := n, bytes := (b.drop j).take 64 } : Stp).bytes).length = min 64 (b.length - j) := hl
      rw [hl] at ip
      have q := pend_count i (by omega) ⟨0, [], [], n, (b.drop j).take 64⟩
      rcases pend_cases i (by omega) ⟨0, [], [], n, (b.drop j).take 64⟩ with ⟨h1, h2, h3, h4⟩ | ⟨h1, h2, h3, h4, h5⟩
      · rw [if_pos h1]
        refine q.trans (puts_count (m := m) (j := j + 64) ip (by omega) (h4.trans ho)) fun o => ?_
        rw [h4, ho] at o; cases o
      · rw [if_neg (by rw [h1]; decide)]; exact q
    · rw [if_neg hj]; exact Count.refl fun h => (i.lf h).1
theorem Op1.append {fs : Fs} {N c : Nat} (i : Inv fs N c) (s b : List UInt8) (h : N + 73 * b.length ≤ mostRoom) : Op1 fs (fs.append s b).2 := by
  unfold Fs.append
  split
  · exact .same i
  rename_i h1
  split
  · exact .same i
  exact .on (file_not h1) (puts_count i h (file_not h1))
end Go.Am
