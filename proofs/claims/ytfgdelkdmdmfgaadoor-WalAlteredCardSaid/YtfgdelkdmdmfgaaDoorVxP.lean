import Derived.Test.YtfgdelkdmdmfgaaDoorVxO
namespace Go.Am
open Go
set_option linter.all false
def U9 (fl:List (Int × List UInt8)):List (List UInt8 × Int)→List (Int × List UInt8)→List (Int × List UInt8)
  | [],acc=>acc
  | p::l,acc=>U9 fl l (JL acc p.2 (QG fl p.2))
def Fs.crashed (fs:Fs) (k t:Nat):List Stp:=fs.wait.take k++(match fs.wait[k]? with
  | some s=>if s.kind=0 then [{ s with bytes:=s.bytes.take (min t (s.bytes.length - 1)) }] else []
  | none=>[])
def Fs.crash (fs:Fs) (k t:Int):Int × Fs:=if k < 0∨t < 0 then (2,fs) else
  (0,{ fs with sure:=⟨U9 (fs.sure.steps (fs.crashed k.toNat t.toNat)).files (fs.sure.steps (fs.crashed k.toNat t.toNat)).names [],(fs.sure.steps (fs.crashed k.toNat t.toNat)).names⟩,wait:=[],fused:=false,off:=false })
end Go.Am
namespace Go.Proofs.YtfgdelkdmdmfgaaDoor
open Go Go.Am
set_option linter.all false
set_option maxRecDepth 100000
end Go.Proofs.YtfgdelkdmdmfgaaDoor
