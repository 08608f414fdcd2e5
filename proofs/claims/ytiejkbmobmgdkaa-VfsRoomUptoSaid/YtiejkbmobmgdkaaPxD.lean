/- A file that is put in the place of another: what is read behind a crash, call by call. No condition. -/
import Derived.Test.YtiejkbmobmgdkaaVxR
namespace Go.Am
open Go
set_option linter.all false
theorem sync_cases {fs : Fs} {N c : Nat} (i : Inv fs N c) (hN : N ≤ mostRoom) {s : List UInt8} {x : Int} (hf : fs.file s = (x, 0)) : fs.sync s = fs.settle (kFile x) := by
  unfold Fs.sync
  rw [hf, if_neg (by simp)]
theorem W.filter {x : Int} {l : List Stp} (h : W x l) : l.filter (kFile x) = l ∧ l.filter (fun s => !kFile x s) = [] := by
  refine ⟨List.filter_eq_self.2 fun s hs => ?_, List.filter_eq_nil_iff.2 fun s hs => ?_⟩
  · unfold kFile; rw [decide_eq_true (h s hs).1, decide_eq_true (h s hs).2]; rfl
  · unfold kFile; rw [decide_eq_true (h s hs).1, decide_eq_true (h s hs).2]; simp
theorem W.nm {x : Int} {l : List Stp} (h : W x l) (j : Nat) (ns : List (List UInt8 × Int)) : nsteps ns (l.take j) = ns := W.names (x := x) (fun s hs => h s (List.mem_of_mem_take hs)) ns
def curB : List UInt8 := [99, 117, 114, 114, 101, 110, 116]
def newB : List UInt8 := [110, 101, 119]
def mkS (s : List UInt8) (x : Int) : Stp := ⟨1, s, [], x, []⟩
/-- a file with a name of its own, and nothing pending -/
structure One (s : List UInt8) (b : List UInt8) (fs : Fs) : Prop where
  names : fs.sure.names = [(s, 0)]
  at0 : fbytes fs.sure.files 0 = b
  at1 : fbytes fs.sure.files 1 = []
  wait : fs.wait = []
  off : fs.off = false
  room : fs.room = 1048576
  next : fs.next = 1
theorem One.fuse {s b : List UInt8} {fs : Fs} (o : One s b fs) {n : Int} (hn : 0 ≤ n) : (fs.fuse n).1 = 0 ∧ One s b (fs.fuse n).2 := by
  have : fs.fuse n = (0, { fs with fused := true, left := n }) := by unfold Fs.fuse; rw [asked_on o.off rfl, if_neg (by simp), if_neg (by omega)]
  rw [this]
  exact ⟨rfl, o.names, o.at0, o.at1, o.wait, o.off, o.room, o.next⟩
theorem nm5 {ws : List Stp} (w : W 1 ws) (j : Nat) : nget (nsteps [(curB, (0 : Int))] ((mkS newB 1 :: ws).take j)) curB = some 0 := by
  cases j with
  | zero => rfl
  | succ j =>
    show nget (nsteps (nstep [(curB, 0)] (mkS newB 1)) (ws.take j)) curB = _
    rw [w.nm]; rfl
theorem hn5 {ws : List Stp} (w : W 1 ws) : nsteps [(curB, (0 : Int))] (mkS newB 1 :: ws) = [(curB, 0), (newB, 1)] := by
  show nsteps (nstep [(curB, 0)] (mkS newB 1)) ws = _
  rw [w.names]; rfl
end Go.Am
