/-
  No cell of these rows narrows 'for every input' (looked for: loops, veiled, ifaces, maps, wideKeys, modest, calm, conditions, laid).
  DERIVED. THE GIVEN ROWS OF THIS SEAT. 6 by the template 'for every input the law returns true; each argument reads behind the call as it read before'; 0 by the template 'total and deterministic' (their statements: YtiejkbmobmgdkaaTotals.lean).
  GIVEN WITH THE SEED: the statements are not yours to turn. If you find one false, say at which input.
  Laid BY PROGRAM, IN A SANDBOX (cutbox-rows.mjs): the forced cells as the released guide's own fill.sh prints them over the translation 1f766e12a474458c… (all of the seat's roots in one cut). By AI agents, Wed Nov 11 2026. No macro, syntax, notation, axiom, sorry.
-/
import Derived.Test.YtiejkbmobmgdkaaChecked
import GoSem.Claim
import GoSem.ClaimJoined
import GoSem.ClaimMapViews
import Derived.JoinedTies
import Derived.KernelRfl
namespace Go.Proofs.Ytiejkbmobmgdkaa
/- THE CELL 'sum', in the pinned program and in every row, IS THE sha256 OF THE DUMP (.gsa) THAT YtiejkbmobmgdkaaProg.lean LOADS. Nothing in Lean hashes anything: it is a label: what it is worth is what the hold of that sum in a sandbox is worth. -/
noncomputable def Try.pinned : Pinned := { name := "ytiejkbmobmgdkaa", sum := "1f766e12a474458c7169fb7bc043ceee60f597b494f3cbb1c911235f28058469", checked := Try.checked }
namespace Rows
def none {H : Type} : Left H := { results := [], args := [] }

/-- 'stagepostlaw04.VfsSynced': WHATEVER THE INPUT: true; the input reads as it did. -/
def vfsSyncedSpec : ChangeSpec := { name := "vfsSynced", fn := fun _ => fun
  | [d1, d2, d3, d4] => { results := [.lit (.bool true)], args := [d1, d2, d3, d4] }
  | _ => none }
def vfsSyncedRow : OpenClaim := { program := "ytiejkbmobmgdkaa", sum := "1f766e12a474458c7169fb7bc043ceee60f597b494f3cbb1c911235f28058469", func := "stagepost/stagepostlaw04.VfsSynced", spec := "vfsSynced", inPlace := ["maps.clone"], unfollowed := true, recurses := true, apart := false }
def VfsSyncedSaid : Prop := vfsSyncedRow.holds Try.pinned (OpenSpec.ofChange vfsSyncedSpec)

/-- ITS FALSE NEIGHBOUR: 'it returns false'. Refute it at one input. -/
def vfsSyncedWrong : ChangeSpec := { name := "vfsSynced", fn := fun _ => fun
  | [d1, d2, d3, d4] => { results := [.lit (.bool false)], args := [d1, d2, d3, d4] }
  | _ => none }
def VfsSyncedWrongFalsely : Prop := vfsSyncedRow.holds Try.pinned (OpenSpec.ofChange vfsSyncedWrong)

/-- 'stagepostlaw04.VfsRoom': WHATEVER THE INPUT: true; the input reads as it did. -/
def vfsRoomSpec : ChangeSpec := { name := "vfsRoom", fn := fun _ => fun
  | [d1, d2] => { results := [.lit (.bool true)], args := [d1, d2] }
  | _ => none }
def vfsRoomRow : OpenClaim := { program := "ytiejkbmobmgdkaa", sum := "1f766e12a474458c7169fb7bc043ceee60f597b494f3cbb1c911235f28058469", func := "stagepost/stagepostlaw04.VfsRoom", spec := "vfsRoom", inPlace := ["maps.clone"], unfollowed := true, recurses := true, apart := false }
def VfsRoomSaid : Prop := vfsRoomRow.holds Try.pinned (OpenSpec.ofChange vfsRoomSpec)

/-- ITS FALSE NEIGHBOUR: 'it returns false'. Refute it at one input. -/
def vfsRoomWrong : ChangeSpec := { name := "vfsRoom", fn := fun _ => fun
  | [d1, d2] => { results := [.lit (.bool false)], args := [d1, d2] }
  | _ => none }
def VfsRoomWrongFalsely : Prop := vfsRoomRow.holds Try.pinned (OpenSpec.ofChange vfsRoomWrong)

/-- 'stagepostlaw04.VfsMoves': WHATEVER THE INPUT: true; the input reads as it did. -/
def vfsMovesSpec : ChangeSpec := { name := "vfsMoves", fn := fun _ => fun
  | [d1, d2, d3, d4, d5] => { results := [.lit (.bool true)], args := [d1, d2, d3, d4, d5] }
  | _ => none }
def vfsMovesRow : OpenClaim := { program := "ytiejkbmobmgdkaa", sum := "1f766e12a474458c7169fb7bc043ceee60f597b494f3cbb1c911235f28058469", func := "stagepost/stagepostlaw04.VfsMoves", spec := "vfsMoves", inPlace := ["maps.clone"], unfollowed := true, recurses := true, apart := false }
def VfsMovesSaid : Prop := vfsMovesRow.holds Try.pinned (OpenSpec.ofChange vfsMovesSpec)

/-- ITS FALSE NEIGHBOUR: 'it returns false'. Refute it at one input. -/
def vfsMovesWrong : ChangeSpec := { name := "vfsMoves", fn := fun _ => fun
  | [d1, d2, d3, d4, d5] => { results := [.lit (.bool false)], args := [d1, d2, d3, d4, d5] }
  | _ => none }
def VfsMovesWrongFalsely : Prop := vfsMovesRow.holds Try.pinned (OpenSpec.ofChange vfsMovesWrong)

/-- 'stagepostlaw04.VfsFuse': WHATEVER THE INPUT: true; the input reads as it did. -/
def vfsFuseSpec : ChangeSpec := { name := "vfsFuse", fn := fun _ => fun
  | [d1, d2] => { results := [.lit (.bool true)], args := [d1, d2] }
  | _ => none }
def vfsFuseRow : OpenClaim := { program := "ytiejkbmobmgdkaa", sum := "1f766e12a474458c7169fb7bc043ceee60f597b494f3cbb1c911235f28058469", func := "stagepost/stagepostlaw04.VfsFuse", spec := "vfsFuse", inPlace := ["maps.clone"], unfollowed := true, recurses := true, apart := false }
def VfsFuseSaid : Prop := vfsFuseRow.holds Try.pinned (OpenSpec.ofChange vfsFuseSpec)

/-- ITS FALSE NEIGHBOUR: 'it returns false'. Refute it at one input. -/
def vfsFuseWrong : ChangeSpec := { name := "vfsFuse", fn := fun _ => fun
  | [d1, d2] => { results := [.lit (.bool false)], args := [d1, d2] }
  | _ => none }
def VfsFuseWrongFalsely : Prop := vfsFuseRow.holds Try.pinned (OpenSpec.ofChange vfsFuseWrong)

/-- 'stagepostlaw04.VfsNames': WHATEVER THE INPUT: true; the input reads as it did. -/
def vfsNamesSpec : ChangeSpec := { name := "vfsNames", fn := fun _ => fun
  | [] => { results := [.lit (.bool true)], args := [] }
  | _ => none }
def vfsNamesRow : OpenClaim := { program := "ytiejkbmobmgdkaa", sum := "1f766e12a474458c7169fb7bc043ceee60f597b494f3cbb1c911235f28058469", func := "stagepost/stagepostlaw04.VfsNames", spec := "vfsNames", inPlace := ["maps.clone"], unfollowed := true, recurses := true, apart := false }
def VfsNamesSaid : Prop := vfsNamesRow.holds Try.pinned (OpenSpec.ofChange vfsNamesSpec)

/-- ITS FALSE NEIGHBOUR: 'it returns false'. Refute it at one input. -/
def vfsNamesWrong : ChangeSpec := { name := "vfsNames", fn := fun _ => fun
  | [] => { results := [.lit (.bool false)], args := [] }
  | _ => none }
def VfsNamesWrongFalsely : Prop := vfsNamesRow.holds Try.pinned (OpenSpec.ofChange vfsNamesWrong)

/-- 'stagepostlaw04.VfsNil': WHATEVER THE INPUT: true; the input reads as it did. -/
def vfsNilSpec : ChangeSpec := { name := "vfsNil", fn := fun _ => fun
  | [d] => { results := [.lit (.bool true)], args := [d] }
  | _ => none }
def vfsNilRow : OpenClaim := { program := "ytiejkbmobmgdkaa", sum := "1f766e12a474458c7169fb7bc043ceee60f597b494f3cbb1c911235f28058469", func := "stagepost/stagepostlaw04.VfsNil", spec := "vfsNil", inPlace := ["maps.clone"], unfollowed := true, recurses := true, apart := false }
def VfsNilSaid : Prop := vfsNilRow.holds Try.pinned (OpenSpec.ofChange vfsNilSpec)

/-- ITS FALSE NEIGHBOUR: 'it returns false'. Refute it at one input. -/
def vfsNilWrong : ChangeSpec := { name := "vfsNil", fn := fun _ => fun
  | [d] => { results := [.lit (.bool false)], args := [d] }
  | _ => none }
def VfsNilWrongFalsely : Prop := vfsNilRow.holds Try.pinned (OpenSpec.ofChange vfsNilWrong)

/- THE SECOND FORM. 'bulk': how many values and letters a reading holds, each counted each time it is reached (what is shared counts as often as it is met; a slice's spare places count too). A statement '..UptoSaid' is the law's where the arguments, and the package variables that the reading takes, are together of bulk at most 1048576: NARROWER than '..Said'. Prove '..Said' where nothing that the law and all that it calls make is longer than what came in: it says more and counts as full. Else prove '..UptoSaid'. A law counts once. -/
mutual
def uptoBulk {H : Type} : DataW H → Nat
  | .lit (.string bytes) => bytes.length + 1
  | .lit _ => 1
  | .nil => 1
  | .ptr d => uptoBulk d + 1
  | .slice elems spare => uptoBulkAll elems + uptoBulkAll spare + 1
  | .agg parts => uptoBulkAll parts + 1
  | .iface _ d => uptoBulk d + 1
  | .map entries => uptoBulkEntries entries + 1
  | .held _ => 1
def uptoBulkAll {H : Type} : List (DataW H) → Nat
  | [] => 0
  | d :: r => uptoBulk d + uptoBulkAll r
def uptoBulkEntries {H : Type} : List (Lit × DataW H) → Nat
  | [] => 0
  | x :: r => uptoBulkEntry x + uptoBulkEntries r
def uptoBulkEntry {H : Type} : Lit × DataW H → Nat
  | (.string bytes, d) => bytes.length + uptoBulk d + 1
  | (_, d) => uptoBulk d + 1
 end
def uptoSmall : (H : Type) → List (DataW H) → Bool := fun _ ds => decide (uptoBulkAll ds ≤ 1048576)
def OpenSpec.upto (s : _root_.Go.ChangeSpec) : _root_.Go.OpenSpec := { _root_.Go.OpenSpec.ofChange s with cond := some uptoSmall }

/-- 'stagepostlaw04.VfsSynced', WHERE WHAT IT READS IS OF BULK AT MOST 1048576: true; the input reads as it did. -/
def vfsSyncedUptoRow : OpenClaim := { program := "ytiejkbmobmgdkaa", sum := "1f766e12a474458c7169fb7bc043ceee60f597b494f3cbb1c911235f28058469", func := "stagepost/stagepostlaw04.VfsSynced", spec := "vfsSynced", inPlace := ["maps.clone"], unfollowed := true, recurses := true, apart := false, narrowed := true }
def VfsSyncedUptoSaid : Prop := vfsSyncedUptoRow.holds Try.pinned (OpenSpec.upto vfsSyncedSpec)

/-- 'stagepostlaw04.VfsRoom', WHERE WHAT IT READS IS OF BULK AT MOST 1048576: true; the input reads as it did. -/
def vfsRoomUptoRow : OpenClaim := { program := "ytiejkbmobmgdkaa", sum := "1f766e12a474458c7169fb7bc043ceee60f597b494f3cbb1c911235f28058469", func := "stagepost/stagepostlaw04.VfsRoom", spec := "vfsRoom", inPlace := ["maps.clone"], unfollowed := true, recurses := true, apart := false, narrowed := true }
def VfsRoomUptoSaid : Prop := vfsRoomUptoRow.holds Try.pinned (OpenSpec.upto vfsRoomSpec)

/-- 'stagepostlaw04.VfsMoves', WHERE WHAT IT READS IS OF BULK AT MOST 1048576: true; the input reads as it did. -/
def vfsMovesUptoRow : OpenClaim := { program := "ytiejkbmobmgdkaa", sum := "1f766e12a474458c7169fb7bc043ceee60f597b494f3cbb1c911235f28058469", func := "stagepost/stagepostlaw04.VfsMoves", spec := "vfsMoves", inPlace := ["maps.clone"], unfollowed := true, recurses := true, apart := false, narrowed := true }
def VfsMovesUptoSaid : Prop := vfsMovesUptoRow.holds Try.pinned (OpenSpec.upto vfsMovesSpec)

/-- 'stagepostlaw04.VfsFuse', WHERE WHAT IT READS IS OF BULK AT MOST 1048576: true; the input reads as it did. -/
def vfsFuseUptoRow : OpenClaim := { program := "ytiejkbmobmgdkaa", sum := "1f766e12a474458c7169fb7bc043ceee60f597b494f3cbb1c911235f28058469", func := "stagepost/stagepostlaw04.VfsFuse", spec := "vfsFuse", inPlace := ["maps.clone"], unfollowed := true, recurses := true, apart := false, narrowed := true }
def VfsFuseUptoSaid : Prop := vfsFuseUptoRow.holds Try.pinned (OpenSpec.upto vfsFuseSpec)

/-- 'stagepostlaw04.VfsNames', WHERE WHAT IT READS IS OF BULK AT MOST 1048576: true; the input reads as it did. -/
def vfsNamesUptoRow : OpenClaim := { program := "ytiejkbmobmgdkaa", sum := "1f766e12a474458c7169fb7bc043ceee60f597b494f3cbb1c911235f28058469", func := "stagepost/stagepostlaw04.VfsNames", spec := "vfsNames", inPlace := ["maps.clone"], unfollowed := true, recurses := true, apart := false, narrowed := true }
def VfsNamesUptoSaid : Prop := vfsNamesUptoRow.holds Try.pinned (OpenSpec.upto vfsNamesSpec)

/-- 'stagepostlaw04.VfsNil', WHERE WHAT IT READS IS OF BULK AT MOST 1048576: true; the input reads as it did. -/
def vfsNilUptoRow : OpenClaim := { program := "ytiejkbmobmgdkaa", sum := "1f766e12a474458c7169fb7bc043ceee60f597b494f3cbb1c911235f28058469", func := "stagepost/stagepostlaw04.VfsNil", spec := "vfsNil", inPlace := ["maps.clone"], unfollowed := true, recurses := true, apart := false, narrowed := true }
def VfsNilUptoSaid : Prop := vfsNilUptoRow.holds Try.pinned (OpenSpec.upto vfsNilSpec)

end Rows
end Go.Proofs.Ytiejkbmobmgdkaa
