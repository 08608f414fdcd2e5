import Derived.Test.YtfgdelkdmdmfgaaDoorVxR
namespace Go.Am
open Go
set_option linter.all false
theorem sync_cases {fs:Fs} {N c:Nat} (i:Inv fs N c) (hN:N≤Qe) {s:List UInt8} {x:Int} (hf:fs.file s=(x,0)):fs.sync s=fs.settle (WX x):=by
  unfold Fs.sync
  rw [hf,if_neg (by simp)]
theorem syncNames_on {fs:Fs} (ho:fs.off=false):fs.syncNames=fs.settle VR:=by
  unfold Fs.syncNames
  rw [Jk ho rfl,if_neg (by simp)]
theorem W.filter {x:Int} {l:List Stp} (h:W x l):l.filter (WX x)=l∧l.filter (fun s=>!WX x s)=[]:=by
  refine ⟨List.filter_eq_self.2 fun s hs=>?_,List.filter_eq_nil_iff.2 fun s hs=>?_⟩
  · unfold WX;rw [decide_eq_true (h s hs).1,decide_eq_true (h s hs).2];rfl
  · unfold WX;rw [decide_eq_true (h s hs).1,decide_eq_true (h s hs).2];simp
theorem W.nm {x:Int} {l:List Stp} (h:W x l) (j:Nat) (ns:List (List UInt8 × Int)):ZL ns (l.take j)=ns:=W.names (x:=x) (fun s hs=>h s (List.mem_of_mem_take hs)) ns
end Go.Am
