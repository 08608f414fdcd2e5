/-
  No cell of these rows narrows 'for every input' (looked for: loops, veiled, ifaces, maps, wideKeys, modest, calm, conditions, laid).
  DERIVED. THE GIVEN ROWS OF THIS SEAT. 4 by the template 'for every input the law returns true; each argument reads behind the call as it read before'; 0 by the template 'total and deterministic' (their statements: YtlbigopkplckaaaTotals.lean).
  GIVEN WITH THE SEED: the statements are not yours to turn. If you find one false, say at which input.
  Laid BY PROGRAM, IN A SANDBOX (cutbox-rows.mjs): the forced cells as the released guide's own fill.sh prints them over the translation b5a6e8d8ab51df21… (all of the seat's roots in one cut). By AI agents, Wed Nov 11 2026. No macro, syntax, notation, axiom, sorry.
-/
import Derived.Test.YtlbigopkplckaaaChecked
import GoSem.Claim
import GoSem.ClaimJoined
import GoSem.ClaimMapViews
import Derived.JoinedTies
import Derived.KernelRfl
namespace Go.Proofs.Ytlbigopkplckaaa
/- THE CELL 'sum', in the pinned program and in every row, IS THE sha256 OF THE DUMP (.gsa) THAT YtlbigopkplckaaaProg.lean LOADS. Nothing in Lean hashes anything: it is a label: what it is worth is what the hold of that sum in a sandbox is worth. -/
noncomputable def Try.pinned : Pinned := { name := "ytlbigopkplckaaa", sum := "b5a6e8d8ab51df210315e9a135d07c65d8b8e615058d1547da84c6943962e3dd", checked := Try.checked }
namespace Rows
def none {H : Type} : Left H := { results := [], args := [] }

/-- 'stagepostlaw23.MvccNames': WHATEVER THE INPUT: true; the input reads as it did. -/
def mvccNamesSpec : ChangeSpec := { name := "mvccNames", fn := fun _ => fun
  | [] => { results := [.lit (.bool true)], args := [] }
  | _ => none }
def mvccNamesRow : OpenClaim := { program := "ytlbigopkplckaaa", sum := "b5a6e8d8ab51df210315e9a135d07c65d8b8e615058d1547da84c6943962e3dd", func := "stagepost/stagepostlaw23.MvccNames", spec := "mvccNames", inPlace := ["internal/abi.NoEscape"], apart := false }
def MvccNamesSaid : Prop := mvccNamesRow.holds Try.pinned (OpenSpec.ofChange mvccNamesSpec)

/-- ITS FALSE NEIGHBOUR: 'it returns false'. Refute it at one input. -/
def mvccNamesWrong : ChangeSpec := { name := "mvccNames", fn := fun _ => fun
  | [] => { results := [.lit (.bool false)], args := [] }
  | _ => none }
def MvccNamesWrongFalsely : Prop := mvccNamesRow.holds Try.pinned (OpenSpec.ofChange mvccNamesWrong)

/-- 'stagepostlaw23.MvccCalls': WHATEVER THE INPUT: true; the input reads as it did. -/
def mvccCallsSpec : ChangeSpec := { name := "mvccCalls", fn := fun _ => fun
  | [d1, d2, d3, d4] => { results := [.lit (.bool true)], args := [d1, d2, d3, d4] }
  | _ => none }
def mvccCallsRow : OpenClaim := { program := "ytlbigopkplckaaa", sum := "b5a6e8d8ab51df210315e9a135d07c65d8b8e615058d1547da84c6943962e3dd", func := "stagepost/stagepostlaw23.MvccCalls", spec := "mvccCalls", inPlace := ["internal/abi.NoEscape"], recurses := true, apart := false }
def MvccCallsSaid : Prop := mvccCallsRow.holds Try.pinned (OpenSpec.ofChange mvccCallsSpec)

/-- ITS FALSE NEIGHBOUR: 'it returns false'. Refute it at one input. -/
def mvccCallsWrong : ChangeSpec := { name := "mvccCalls", fn := fun _ => fun
  | [d1, d2, d3, d4] => { results := [.lit (.bool false)], args := [d1, d2, d3, d4] }
  | _ => none }
def MvccCallsWrongFalsely : Prop := mvccCallsRow.holds Try.pinned (OpenSpec.ofChange mvccCallsWrong)

/-- 'stagepostlaw23.MvccReads': WHATEVER THE INPUT: true; the input reads as it did. -/
def mvccReadsSpec : ChangeSpec := { name := "mvccReads", fn := fun _ => fun
  | [d] => { results := [.lit (.bool true)], args := [d] }
  | _ => none }
def mvccReadsRow : OpenClaim := { program := "ytlbigopkplckaaa", sum := "b5a6e8d8ab51df210315e9a135d07c65d8b8e615058d1547da84c6943962e3dd", func := "stagepost/stagepostlaw23.MvccReads", spec := "mvccReads", inPlace := ["internal/abi.NoEscape"], recurses := true, apart := false }
def MvccReadsSaid : Prop := mvccReadsRow.holds Try.pinned (OpenSpec.ofChange mvccReadsSpec)

/-- ITS FALSE NEIGHBOUR: 'it returns false'. Refute it at one input. -/
def mvccReadsWrong : ChangeSpec := { name := "mvccReads", fn := fun _ => fun
  | [d] => { results := [.lit (.bool false)], args := [d] }
  | _ => none }
def MvccReadsWrongFalsely : Prop := mvccReadsRow.holds Try.pinned (OpenSpec.ofChange mvccReadsWrong)

/-- 'stagepostlaw23.MvccBack': WHATEVER THE INPUT: true; the input reads as it did. -/
def mvccBackSpec : ChangeSpec := { name := "mvccBack", fn := fun _ => fun
  | [d1, d2, d3, d4, d5] => { results := [.lit (.bool true)], args := [d1, d2, d3, d4, d5] }
  | _ => none }
def mvccBackRow : OpenClaim := { program := "ytlbigopkplckaaa", sum := "b5a6e8d8ab51df210315e9a135d07c65d8b8e615058d1547da84c6943962e3dd", func := "stagepost/stagepostlaw23.MvccBack", spec := "mvccBack", inPlace := ["internal/abi.NoEscape"], apart := false }
def MvccBackSaid : Prop := mvccBackRow.holds Try.pinned (OpenSpec.ofChange mvccBackSpec)

/-- ITS FALSE NEIGHBOUR: 'it returns false'. Refute it at one input. -/
def mvccBackWrong : ChangeSpec := { name := "mvccBack", fn := fun _ => fun
  | [d1, d2, d3, d4, d5] => { results := [.lit (.bool false)], args := [d1, d2, d3, d4, d5] }
  | _ => none }
def MvccBackWrongFalsely : Prop := mvccBackRow.holds Try.pinned (OpenSpec.ofChange mvccBackWrong)

/- THE SECOND FORM. 'bulk': how many values and letters a reading holds, each counted each time it is reached (what is shared counts as often as it is met; a slice's spare places count too). A statement '..UptoSaid' is the law's where the arguments, and the package variables that the reading takes, are together of bulk at most 1048576: NARROWER than '..Said'. Prove '..Said' where nothing that the law and all that it calls make is longer than what came in: it says more and counts as full. Else prove '..UptoSaid'. A law counts once. -/
mutual
def uptoBulk {H : Type} : DataW H → Nat
  | .lit (.string bytes) => bytes.length + 1
  | .lit _ => 1
  | .nil => 1
  | .ptr d => uptoBulk d + 1
  | .slice elems spare => uptoBulkAll elems + uptoBulkAll spare + 1
  | .agg parts => uptoBulkAll parts + 1
  | .iface _ d => uptoBulk d + 1
  | .map entries => uptoBulkEntries entries + 1
  | .held _ => 1
def uptoBulkAll {H : Type} : List (DataW H) → Nat
  | [] => 0
  | d :: r => uptoBulk d + uptoBulkAll r
def uptoBulkEntries {H : Type} : List (Lit × DataW H) → Nat
  | [] => 0
  | x :: r => uptoBulkEntry x + uptoBulkEntries r
def uptoBulkEntry {H : Type} : Lit × DataW H → Nat
  | (.string bytes, d) => bytes.length + uptoBulk d + 1
  | (_, d) => uptoBulk d + 1
 end
def uptoSmall : (H : Type) → List (DataW H) → Bool := fun _ ds => decide (uptoBulkAll ds ≤ 1048576)
def OpenSpec.upto (s : _root_.Go.ChangeSpec) : _root_.Go.OpenSpec := { _root_.Go.OpenSpec.ofChange s with cond := some uptoSmall }

/-- 'stagepostlaw23.MvccNames', WHERE WHAT IT READS IS OF BULK AT MOST 1048576: true; the input reads as it did. -/
def mvccNamesUptoRow : OpenClaim := { program := "ytlbigopkplckaaa", sum := "b5a6e8d8ab51df210315e9a135d07c65d8b8e615058d1547da84c6943962e3dd", func := "stagepost/stagepostlaw23.MvccNames", spec := "mvccNames", inPlace := ["internal/abi.NoEscape"], apart := false, narrowed := true }
def MvccNamesUptoSaid : Prop := mvccNamesUptoRow.holds Try.pinned (OpenSpec.upto mvccNamesSpec)

/-- 'stagepostlaw23.MvccCalls', WHERE WHAT IT READS IS OF BULK AT MOST 1048576: true; the input reads as it did. -/
def mvccCallsUptoRow : OpenClaim := { program := "ytlbigopkplckaaa", sum := "b5a6e8d8ab51df210315e9a135d07c65d8b8e615058d1547da84c6943962e3dd", func := "stagepost/stagepostlaw23.MvccCalls", spec := "mvccCalls", inPlace := ["internal/abi.NoEscape"], recurses := true, apart := false, narrowed := true }
def MvccCallsUptoSaid : Prop := mvccCallsUptoRow.holds Try.pinned (OpenSpec.upto mvccCallsSpec)

/-- 'stagepostlaw23.MvccReads', WHERE WHAT IT READS IS OF BULK AT MOST 1048576: true; the input reads as it did. -/
def mvccReadsUptoRow : OpenClaim := { program := "ytlbigopkplckaaa", sum := "b5a6e8d8ab51df210315e9a135d07c65d8b8e615058d1547da84c6943962e3dd", func := "stagepost/stagepostlaw23.MvccReads", spec := "mvccReads", inPlace := ["internal/abi.NoEscape"], recurses := true, apart := false, narrowed := true }
def MvccReadsUptoSaid : Prop := mvccReadsUptoRow.holds Try.pinned (OpenSpec.upto mvccReadsSpec)

/-- 'stagepostlaw23.MvccBack', WHERE WHAT IT READS IS OF BULK AT MOST 1048576: true; the input reads as it did. -/
def mvccBackUptoRow : OpenClaim := { program := "ytlbigopkplckaaa", sum := "b5a6e8d8ab51df210315e9a135d07c65d8b8e615058d1547da84c6943962e3dd", func := "stagepost/stagepostlaw23.MvccBack", spec := "mvccBack", inPlace := ["internal/abi.NoEscape"], apart := false, narrowed := true }
def MvccBackUptoSaid : Prop := mvccBackUptoRow.holds Try.pinned (OpenSpec.upto mvccBackSpec)

end Rows
end Go.Proofs.Ytlbigopkplckaaa
