/- A file that is appended to and synced: what is read behind a crash. No condition. -/
import Derived.Test.YtiejkbmobmgdkaaPxD
namespace Go.Am
open Go
set_option linter.all false
def logB : List UInt8 := [108, 111, 103]
theorem named_log : named logB = true := by decide
structure Syn (all sv : List UInt8) (fs : Fs) : Prop where
  names : fs.sure.names = [(logB, 0)]
  w : W 0 fs.wait
  pre : fbytes fs.sure.files 0 ++ cat 0 fs.wait <+: all
  sv : sv.length ≤ (fbytes fs.sure.files 0).length
structure SynOn (all sv : List UInt8) (fs : Fs) : Prop where
  syn : Syn all sv fs
  eq : fbytes fs.sure.files 0 ++ cat 0 fs.wait = all
  off : fs.off = false
  room : fs.room = 1048576
theorem SynOn.fuse {all sv : List UInt8} {fs : Fs} (o : SynOn all sv fs) {n : Int} (hn : 0 ≤ n) : (fs.fuse n).1 = 0 ∧ SynOn all sv (fs.fuse n).2 := by
  have : fs.fuse n = (0, { fs with fused := true, left := n }) := by unfold Fs.fuse; rw [asked_on o.off rfl, if_neg (by simp), if_neg (by omega)]
  rw [this]
  exact ⟨rfl, ⟨o.syn.names, o.syn.w, o.syn.pre, o.syn.sv⟩, o.eq, o.off, o.room⟩
theorem Syn.file {all sv : List UInt8} {fs : Fs} (o : Syn all sv fs) : nget fs.held.names logB = some 0 := by
  unfold Fs.held; rw [steps_names, o.names, o.w.names]; rfl
theorem SynOn.append {all sv b : List UInt8} {fs : Fs} {N c : Nat} (o : SynOn all sv fs) (i : Inv fs N c) (hb : b.length ≤ 400) (ha : all.length ≤ 40000) (hN : N + 73 * b.length ≤ mostRoom) (hcN : c * N ≤ 4611686018427387904) :
    ((fs.append logB b).1 = 0 ∧ SynOn (all ++ b) sv (fs.append logB b).2) ∨ ((fs.append logB b).1 ≠ 0 ∧ Syn (all ++ b) sv (fs.append logB b).2) := by
  have hh : fs.held.names = [(logB, 0)] := by unfold Fs.held; rw [steps_names, o.syn.names, o.syn.w.names]
  have fl : fs.file logB = (0, 0) := file_some o.off named_log o.syn.file
  have sp : (b.length : Int) ≤ fs.space := by
    rw [space_is i hcN (by rw [o.room]; omega) o.off, hh, o.room]
    have : used fs.held.files [(logB, 0)] = all.length := by
      show (fbytes fs.held.files 0).length + 0 = _
      unfold Fs.held; rw [fbytes_steps, o.eq, Nat.add_zero]
    rw [this]; omega
  obtain ⟨ws, w1, w2, w3, w4, w5⟩ := append_cases i (b := b) fl sp hN
  have hw : W 0 (fs.wait ++ ws) := fun s hs => (List.mem_append.1 hs).elim (o.syn.w s) (w1 s)
  have hpre : fbytes fs.sure.files 0 ++ cat 0 (fs.wait ++ ws) <+: all ++ b := by
    rw [cat_app, ← List.append_assoc, o.eq]; exact (List.prefix_append_right_inj _).2 w4
  have base : Syn (all ++ b) sv (fs.append logB b).2 := ⟨by rw [w2.sure]; exact o.syn.names, by rw [w3]; exact hw, by rw [w3, w2.sure]; exact hpre, by rw [w2.sure]; exact o.syn.sv⟩
  rcases w5 with ⟨b1, b2, b3⟩ | ⟨b1, b2, b3⟩
  · refine .inl ⟨b1, base, ?_, b3.trans o.off, w2.room.trans o.room⟩
    rw [w3, w2.sure, cat_app, ← List.append_assoc, o.eq, b2]
  · exact .inr ⟨by rw [b1]; decide, base⟩
theorem SynOn.sync {all sv : List UInt8} {fs : Fs} {N c : Nat} (o : SynOn all sv fs) (i : Inv fs N c) (hN : N ≤ mostRoom) :
    ((fs.sync logB).1 = 0 ∧ SynOn all all (fs.sync logB).2) ∨ ((fs.sync logB).1 ≠ 0 ∧ Syn all sv (fs.sync logB).2) := by
  have fl : fs.file logB = (0, 0) := file_some o.off named_log o.syn.file
  rw [sync_cases i hN fl]
  rcases settle_cases i hN (kFile 0) with ⟨d1, d2, d3, d4, d5, d6, d7, d8⟩ | ⟨d1, d2, d3⟩
  · rw [o.syn.w.filter.1] at d2
    rw [o.syn.w.filter.2] at d3
    have hf : fbytes (fs.settle (kFile 0)).2.sure.files 0 = all := by rw [d2, fbytes_steps, o.eq]
    refine .inl ⟨d1, ⟨by rw [d2, steps_names, o.syn.w.names]; exact o.syn.names, by rw [d3]; exact fun s h => (by cases h), by rw [hf, d3]; show all ++ [] <+: all; rw [List.append_nil]; exact List.prefix_rfl, by rw [hf]; exact Nat.le_refl _⟩, by rw [hf, d3]; exact List.append_nil _, d7.trans o.off, d4.trans o.room⟩
  · refine .inr ⟨by rw [d1]; decide, ?_⟩
    rw [d2]
    exact ⟨o.syn.names, o.syn.w, o.syn.pre, o.syn.sv⟩
theorem Syn.crash {all sv : List UInt8} {fs : Fs} {N c : Nat} (o : Syn all sv fs) (i : Inv fs N c) {k t : Int} (hk : 0 ≤ k) (ht : 0 ≤ t) : ∃ r, (fs.crash k t).2.read logB = (r, 0) ∧ r <+: all ∧ sv.length ≤ r.length := by
  refine ⟨_, read_crash i hk ht named_log (x := 0) ?_, ?_, ?_⟩
  · rw [o.names, o.w.nm]; rfl
  · exact ((List.prefix_append_right_inj _).2 (cat_crashed fs k.toNat t.toNat 0)).trans o.pre
  · rw [List.length_append]; have := o.sv; omega
end Go.Am
