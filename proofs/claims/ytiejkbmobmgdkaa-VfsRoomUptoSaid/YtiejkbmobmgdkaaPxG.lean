/- Nothing is appended that does not fit: room, and what named files hold. No condition. -/
import Derived.Test.YtiejkbmobmgdkaaPxF
namespace Go.Am
open Go
set_option linter.all false
structure CalmR (room : Int) (fs : Fs) : Prop where
  off : fs.off = false
  fused : fs.fused = false
  room : fs.room = room
theorem raw_room (fs : Fs) : fs.raw.2.room = fs.room := by unfold Fs.raw; split <;> rfl
theorem pend_room (fs : Fs) (s : Stp) : (fs.pend s).2.room = fs.room := by
  unfold Fs.pend
  split
  · exact raw_room fs
  · exact raw_room fs
theorem settle_room (fs : Fs) (p : Stp → Bool) : (fs.settle p).2.room = fs.room := by
  unfold Fs.settle
  split
  · exact raw_room fs
  · exact raw_room fs
theorem create_room (fs : Fs) (s : List UInt8) : (fs.create s).2.room = fs.room := by
  unfold Fs.create
  split
  · rfl
  split
  · rfl
  · exact pend_room fs _
theorem rename_room (fs : Fs) (a b : List UInt8) : (fs.rename a b).2.room = fs.room := by
  unfold Fs.rename
  split
  · rfl
  split
  · rfl
  · exact pend_room fs _
theorem remove_room (fs : Fs) (a : List UInt8) : (fs.remove a).2.room = fs.room := by
  unfold Fs.remove
  split
  · rfl
  · exact pend_room fs _
theorem sync_room (fs : Fs) (a : List UInt8) : (fs.sync a).2.room = fs.room := by
  unfold Fs.sync
  split
  · rfl
  · exact settle_room fs _
theorem syncNames_room (fs : Fs) : fs.syncNames.2.room = fs.room := by
  unfold Fs.syncNames
  split
  · rfl
  · exact settle_room fs _
theorem puts_room (n : Int) (b : List UInt8) : ∀ (m j : Nat) (fs : Fs), (fs.puts n b m j).2.room = fs.room
  | 0, _, fs => rfl
  | m + 1, j, fs => by
    unfold Fs.puts
    split
    · split
      · rw [puts_room n b m]; exact pend_room fs _
      · exact pend_room fs _
    · rfl
theorem append_room (fs : Fs) (a b : List UInt8) : (fs.append a b).2.room = fs.room := by
  unfold Fs.append
  split
  · rfl
  split
  · rfl
  · exact puts_room _ _ _ _ fs
theorem CalmR.op {room : Int} {fs fs' : Fs} (c : CalmR room fs) (o : Op1 fs fs') (hr : fs'.room = fs.room) : CalmR room fs' := by
  refine ⟨?_, o.count.fused.trans c.fused, hr.trans c.room⟩
  cases e : fs'.off with
  | false => rfl
  | true => have := (o.count.off c.off e).1; rw [c.fused] at this; cases this
theorem CalmR.crash {room : Int} {fs : Fs} (c : CalmR room fs) (k t : Int) : CalmR room (fs.crash k t).2 := by
  unfold Fs.crash
  split
  · exact c
  · exact ⟨rfl, rfl, c.room⟩
/-- how much is held -/
def Fs.holds (fs : Fs) : Nat := Am.used fs.held.files fs.held.names
theorem used_add {fl fl' : List (Int × List UInt8)} {x : Int} {n : Nat} (h : ∀ y, (fbytes fl' y).length = (fbytes fl y).length + if y = x then n else 0) : ∀ l : List (List UInt8 × Int), (l.map (·.2)).Nodup → used fl' l ≤ used fl l + n ∧ (x ∉ l.map (·.2) → used fl' l = used fl l)
  | [], _ => ⟨Nat.zero_le _, fun _ => rfl⟩
  | p :: l, hd => by
    rw [List.map_cons, List.nodup_cons] at hd
    obtain ⟨h1, h2⟩ := used_add h l hd.2
    have e := h p.2
    refine ⟨?_, fun hx => ?_⟩
    · show (fbytes fl' p.2).length + used fl' l ≤ (fbytes fl p.2).length + used fl l + n
      by_cases hp : p.2 = x
      · rw [if_pos hp] at e
        have := h2 (by rw [← hp]; exact hd.1)
        omega
      · rw [if_neg hp] at e; omega
    · rw [List.map_cons] at hx
      show (fbytes fl' p.2).length + used fl' l = (fbytes fl p.2).length + used fl l
      have hp : p.2 ≠ x := fun e' => hx (e' ▸ List.mem_cons_self)
      rw [if_neg hp] at e
      have := h2 fun hm => hx (List.mem_cons_of_mem _ hm)
      omega
theorem append_fits {room : Int} {fs : Fs} {N c : Nat} (cm : CalmR room fs) (i : Inv fs N c) (hcN : c * N ≤ 4611686018427387904) (hr : 0 ≤ room ∧ room ≤ 1073741824) {s b : List UInt8} (h : N + 73 * b.length ≤ mostRoom) (hok : (fs.append s b).1 = 0) : ((fs.append s b).2.holds : Int) ≤ room := by
  have hsp := space_is i hcN (by rw [cm.room]; exact hr) cm.off
  rw [cm.room] at hsp
  by_cases hf : (fs.file s).2 ≠ 0
  · have : fs.append s b = ((fs.file s).2, fs) := by unfold Fs.append; rw [if_pos hf]
    rw [this] at hok; exact absurd hok hf
  · by_cases hl : fs.space < Int.ofNat b.length
    · have : fs.append s b = (8, fs) := by unfold Fs.append; rw [if_neg hf, if_pos hl]
      rw [this] at hok; cases hok
    · have hf0 : fs.file s = ((fs.file s).1, 0) := by rw [← Decidable.not_not.1 hf]
      have hlen : (b.length : Int) ≤ fs.space := by have := Int.not_lt.1 hl; exact this
      obtain ⟨ws, w1, w2, w3, w4, w5⟩ := append_cases i hf0 hlen h
      rcases w5 with ⟨_, b2, _⟩ | ⟨b1, _⟩
      rotate_left
      · rw [hok] at b1; cases b1
      have hh : (fs.append s b).2.held = fs.held.steps ws := by
        unfold Fs.held; rw [w2.sure, w3, steps_app]
      have hn : (fs.append s b).2.held.names = fs.held.names := by rw [hh, steps_names, w1.names]
      have hu := (used_add (x := (fs.file s).1) (n := b.length) (fl := fs.held.files) (fl' := (fs.append s b).2.held.files) (fun y => by
        rw [hh, fbytes_steps, List.length_append]
        by_cases hy : y = (fs.file s).1
        · rw [if_pos hy, hy, b2]
        · rw [if_neg hy, w1.other (fun e => hy e.symm)]; rfl) fs.held.names i.held.nodup).1
      unfold Fs.holds
      rw [hn]
      omega
theorem used_take {fl : List (Int × List UInt8)} : ∀ {l : List (List UInt8 × Int)} {k : Nat} (hk : k < l.length), used fl (l.take (k + 1)) = used fl (l.take k) + (fbytes fl l[k].2).length
  | p :: l, 0, _ => by show (fbytes fl p.2).length + 0 = 0 + (fbytes fl p.2).length; omega
  | p :: l, k + 1, hk => by
    have := used_take (fl := fl) (l := l) (k := k) (by simpa using hk)
    show (fbytes fl p.2).length + used fl (l.take (k + 1)) = (fbytes fl p.2).length + used fl (l.take k) + _
    rw [this]
    simp only [List.getElem_cons_succ]
    omega
theorem used_take_le {fl : List (Int × List UInt8)} : ∀ (l : List (List UInt8 × Int)) (k : Nat), used fl (l.take k) ≤ used fl l
  | [], k => by simp [used]
  | p :: l, 0 => Nat.zero_le _
  | p :: l, k + 1 => by
    have := used_take_le (fl := fl) l k
    show (fbytes fl p.2).length + used fl (l.take k) ≤ (fbytes fl p.2).length + used fl l
    omega
theorem tmod_range (x : Int) {n : Nat} (hn : 0 < n) : -(n : Int) < Int.tmod x (Int.ofNat n) ∧ Int.tmod x (Int.ofNat n) < n := by
  cases x with
  | ofNat m =>
    show -(n : Int) < Int.ofNat (m % n) ∧ Int.ofNat (m % n) < n
    have := Nat.mod_lt m hn
    simp only [Int.ofNat_eq_natCast]; omega
  | negSucc m =>
    show -(n : Int) < -Int.ofNat ((m + 1) % n) ∧ -Int.ofNat ((m + 1) % n) < n
    have := Nat.mod_lt (m + 1) hn
    simp only [Int.ofNat_eq_natCast]; omega
end Go.Am
