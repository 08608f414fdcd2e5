import Derived.Test.YtfgdelkdmdmfgaaDoorCards
import Derived.Test.YtfgdelkdmdmfgaaDoorKpU
import Derived.Test.YtfgdelkdmdmfgaaDoorLaV
import Derived.Lay
import Derived.LaidLaws
import Derived.MakeChecks
import Derived.SevenTiedAt
namespace Go.Proofs.YtfgdelkdmdmfgaaDoor
open Go Go.Am Go.ChangeShapes Go.WideShapes Go.ChangeAt Go.RowKit
set_option maxRecDepth 100000
set_option linter.all false
theorem Tryd.own:ownKnob Tryd.prog.godebug=none:=by kernel_rfl
theorem Tryd.laidOut:laidOutB Tryd.prog=true:=by kernel_rfl
theorem hg_is (ts us:Nat→Nat):Hg (Ym Tryd.prog Rows.walAlteredRow.laid ts us)=JV ts us:=by kernel_rfl
theorem wit_z (os:Os):((World.laidAll Tryd.prog os Rows.walAlteredRow.laid).forCall (fun _ _=>0) ⟨#[],#[.slice none 0 0,.int .i64 0,.int .i64 0,.int .u32 0],[]⟩).variablesZipB Tryd.checked.prog=true:=by kernel_rfl
theorem wit_r (os:Os):(((World.laidAll Tryd.prog os Rows.walAlteredRow.laid).forCall (fun _ _=>0) ⟨#[],#[.slice none 0 0,.int .i64 0,.int .i64 0,.int .u32 0],[]⟩).heap.toList.drop Tryd.checked.prog.globals.size).take ((begin Tryd.checked.prog (fun _ _=>0) default).world.heap.size - Tryd.checked.prog.globals.size)=(begin Tryd.checked.prog (fun _ _=>0) default).world.heap.toList.drop Tryd.checked.prog.globals.size:=by kernel_rfl
theorem wit_o (os:Os):Input.okWideB Tryd.checked.prog ((World.laidAll Tryd.prog os Rows.walAlteredRow.laid).forCall (fun _ _=>0) ⟨#[],#[.slice none 0 0,.int .i64 0,.int .i64 0,.int .u32 0],[]⟩) 3 ⟨#[],#[.slice none 0 0,.int .i64 0,.int .i64 0,.int .u32 0],[]⟩=true:=by kernel_rfl
theorem wit_p {H:Type} (enc:TypeId × Value→H) (os:Os):Rows.walAlteredSpec.preB enc Tryd.checked.prog Tryd.f3 Rows.walAlteredRow.domain false ((World.laidAll Tryd.prog os Rows.walAlteredRow.laid).forCall (fun _ _=>0) ⟨#[],#[.slice none 0 0,.int .i64 0,.int .i64 0,.int .u32 0],[]⟩).memory #[.slice none 0 0,.int .i64 0,.int .i64 0,.int .u32 0] 8=true:=by kernel_rfl
theorem wit_s {H:Type} (enc:TypeId × Value→H) (os:Os):Rows.walAlteredSpec.sizedB enc Tryd.checked.prog Tryd.f3 false ((World.laidAll Tryd.prog os Rows.walAlteredRow.laid).forCall (fun _ _=>0) ⟨#[],#[.slice none 0 0,.int .i64 0,.int .i64 0,.int .u32 0],[]⟩).memory #[.slice none 0 0,.int .i64 0,.int .i64 0,.int .u32 0] 8=true:=by kernel_rfl
theorem wit_f (os:Os):(World.holding Tryd.prog os ⟨#[],#[],[]⟩).layFits Tryd.prog Rows.walAlteredRow.laid []=true:=by kernel_rfl
theorem wit_i (os:Os):(World.holding Tryd.prog os ⟨#[],#[],[]⟩).layIfaces Tryd.prog Rows.walAlteredRow.laid (World.laidAll Tryd.prog os Rows.walAlteredRow.laid)=true:=by kernel_rfl
theorem wit_h:(Rows.walAlteredRow.laid.filter fun x=>x.2.handleName?.isSome)=[]:=by kernel_rfl
theorem wit_n:(Rows.walAlteredRow.laid.all fun x=>x.2.handleName?.isNone)=true:=by kernel_rfl
end Go.Proofs.YtfgdelkdmdmfgaaDoor
