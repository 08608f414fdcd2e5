/- The seat's types and functions, as the functional semantics has them. MADE BY PROGRAM (wip/tools/gam.py). -/
import Derived.Test.YtlbigopkplckaaaProg
import Derived.Test.YtlbigopkplckaaaAmGam
import Derived.KernelRfl
namespace Go.Proofs.Ytlbigopkplckaaa
open Go Go.Am
def tyL : List TI := [
  ⟨.other, 0, 0, [], false⟩,
  ⟨.func, 1, 8, [.nilf], false⟩,
  ⟨.int .i64, 1, 8, [.int .i64 0], false⟩,
  ⟨.int .i64, 1, 8, [.int .i64 0], false⟩,
  ⟨.bool, 1, 1, [.bool false], false⟩,
  ⟨.int .u8, 1, 1, [.int .u8 0], false⟩,
  ⟨.int .u8, 1, 1, [.int .u8 0], false⟩,
  ⟨.struct [(0, 2), (1, 3), (2, 4), (3, 6)], 4, 24, [.int .i64 0, .int .i64 0, .bool false, .int .u8 0], false⟩,
  ⟨.struct [(0, 2), (1, 3), (2, 4), (3, 6)], 4, 24, [.int .i64 0, .int .i64 0, .bool false, .int .u8 0], false⟩,
  ⟨.str, 1, 16, [.str ⟨0, 0⟩], false⟩,
  ⟨.str, 1, 16, [.str ⟨0, 0⟩], false⟩,
  ⟨.str, 1, 16, [.str ⟨0, 0⟩], false⟩,
  ⟨.int .u64, 1, 8, [.int .u64 0], false⟩,
  ⟨.struct [(0, 9), (1, 12)], 2, 24, [.str ⟨0, 0⟩, .int .u64 0], false⟩,
  ⟨.struct [(0, 9), (1, 12)], 2, 24, [.str ⟨0, 0⟩, .int .u64 0], false⟩,
  ⟨.ptr 118, 1, 8, [.nilp], false⟩,
  ⟨.ptr 121, 1, 8, [.nilp], false⟩,
  ⟨.ptr 130, 1, 8, [.nilp], false⟩,
  ⟨.struct [(0, 17)], 1, 8, [.nilp], false⟩,
  ⟨.struct [(0, 17)], 1, 8, [.nilp], false⟩,
  ⟨.iface, 1, 16, [.nili], false⟩,
  ⟨.int .i32, 1, 4, [.int .i32 0], false⟩,
  ⟨.struct [(0, 9), (1, 9), (2, 4)], 3, 40, [.str ⟨0, 0⟩, .str ⟨0, 0⟩, .bool false], false⟩,
  ⟨.struct [(0, 9), (1, 9), (2, 4)], 3, 40, [.str ⟨0, 0⟩, .str ⟨0, 0⟩, .bool false], true⟩,
  ⟨.int .i64, 1, 8, [.int .i64 0], false⟩,
  ⟨.other, 0, 0, [], false⟩,
  ⟨.func, 1, 8, [.nilf], false⟩,
  ⟨.struct [(0, 2), (1, 21), (2, 21)], 3, 16, [.int .i64 0, .int .i32 0, .int .i32 0], false⟩,
  ⟨.struct [(0, 2), (1, 21), (2, 21)], 3, 16, [.int .i64 0, .int .i32 0, .int .i32 0], true⟩,
  ⟨.func, 1, 8, [.nilf], false⟩,
  ⟨.struct [(0, 9), (1, 28), (4, 9), (5, 4)], 6, 56, [.str ⟨0, 0⟩, .int .i64 0, .int .i32 0, .int .i32 0, .str ⟨0, 0⟩, .bool false], false⟩,
  ⟨.struct [(0, 9), (1, 28), (4, 9), (5, 4)], 6, 56, [.str ⟨0, 0⟩, .int .i64 0, .int .i32 0, .int .i32 0, .str ⟨0, 0⟩, .bool false], true⟩,
  ⟨.func, 1, 8, [.nilf], false⟩,
  ⟨.other, 0, 0, [], false⟩,
  ⟨.func, 1, 8, [.nilf], false⟩,
  ⟨.struct [(0, 9), (1, 9)], 2, 32, [.str ⟨0, 0⟩, .str ⟨0, 0⟩], false⟩,
  ⟨.struct [(0, 9), (1, 9)], 2, 32, [.str ⟨0, 0⟩, .str ⟨0, 0⟩], true⟩,
  ⟨.func, 1, 8, [.nilf], false⟩,
  ⟨.struct [(0, 21), (1, 21)], 2, 8, [.int .i32 0, .int .i32 0], false⟩,
  ⟨.struct [(0, 21), (1, 21)], 2, 8, [.int .i32 0, .int .i32 0], true⟩,
  ⟨.struct [(0, 9), (1, 39), (3, 28), (6, 9), (7, 28), (10, 9), (11, 4)], 12, 96, [.str ⟨0, 0⟩, .int .i32 0, .int .i32 0, .int .i64 0, .int .i32 0, .int .i32 0, .str ⟨0, 0⟩, .int .i64 0, .int .i32 0, .int .i32 0, .str ⟨0, 0⟩, .bool false], false⟩,
  ⟨.struct [(0, 9), (1, 39), (3, 28), (6, 9), (7, 28), (10, 9), (11, 4)], 12, 96, [.str ⟨0, 0⟩, .int .i32 0, .int .i32 0, .int .i64 0, .int .i32 0, .int .i32 0, .str ⟨0, 0⟩, .int .i64 0, .int .i32 0, .int .i32 0, .str ⟨0, 0⟩, .bool false], true⟩,
  ⟨.int .u8, 1, 1, [.int .u8 0], false⟩,
  ⟨.slice 9, 1, 24, [.nils], false⟩,
  ⟨.struct [(0, 39), (2, 42), (3, 28), (6, 43), (7, 2), (8, 28)], 11, 80, [.int .i32 0, .int .i32 0, .int .u8 0, .int .i64 0, .int .i32 0, .int .i32 0, .nils, .int .i64 0, .int .i64 0, .int .i32 0, .int .i32 0], false⟩,
  ⟨.struct [(0, 39), (2, 42), (3, 28), (6, 43), (7, 2), (8, 28)], 11, 80, [.int .i32 0, .int .i32 0, .int .u8 0, .int .i64 0, .int .i32 0, .int .i32 0, .nils, .int .i64 0, .int .i64 0, .int .i32 0, .int .i32 0], false⟩,
  ⟨.func, 1, 8, [.nilf], false⟩,
  ⟨.func, 1, 8, [.nilf], false⟩,
  ⟨.func, 1, 8, [.nilf], false⟩,
  ⟨.func, 1, 8, [.nilf], false⟩,
  ⟨.func, 1, 8, [.nilf], false⟩,
  ⟨.other, 0, 0, [], false⟩,
  ⟨.func, 1, 8, [.nilf], false⟩,
  ⟨.other, 0, 0, [], false⟩,
  ⟨.func, 1, 8, [.nilf], false⟩,
  ⟨.func, 1, 8, [.nilf], false⟩,
  ⟨.func, 1, 8, [.nilf], false⟩,
  ⟨.func, 1, 8, [.nilf], false⟩,
  ⟨.func, 1, 8, [.nilf], false⟩,
  ⟨.func, 1, 8, [.nilf], false⟩,
  ⟨.func, 1, 8, [.nilf], false⟩,
  ⟨.ptr 63, 1, 8, [.nilp], false⟩,
  ⟨.struct [(0, 9), (1, 4)], 2, 24, [.str ⟨0, 0⟩, .bool false], false⟩,
  ⟨.struct [(0, 9), (1, 4)], 2, 24, [.str ⟨0, 0⟩, .bool false], true⟩,
  ⟨.func, 1, 8, [.nilf], false⟩,
  ⟨.func, 1, 8, [.nilf], false⟩,
  ⟨.other, 0, 0, [], false⟩,
  ⟨.func, 1, 8, [.nilf], false⟩,
  ⟨.func, 1, 8, [.nilf], false⟩,
  ⟨.func, 1, 8, [.nilf], false⟩,
  ⟨.func, 1, 8, [.nilf], false⟩,
  ⟨.func, 1, 8, [.nilf], false⟩,
  ⟨.func, 1, 8, [.nilf], false⟩,
  ⟨.slice 5, 1, 24, [.nils], false⟩,
  ⟨.func, 1, 8, [.nilf], false⟩,
  ⟨.int .u64, 1, 8, [.int .u64 0], false⟩,
  ⟨.other, 0, 0, [], false⟩,
  ⟨.func, 1, 8, [.nilf], false⟩,
  ⟨.func, 1, 8, [.nilf], false⟩,
  ⟨.ptr 81, 1, 8, [.nilp], false⟩,
  ⟨.struct [(0, 79), (1, 73)], 2, 32, [.nilp, .nils], false⟩,
  ⟨.struct [(0, 79), (1, 73)], 2, 32, [.nilp, .nils], false⟩,
  ⟨.iface, 1, 16, [.nili], false⟩,
  ⟨.iface, 1, 16, [.nili], false⟩,
  ⟨.other, 0, 0, [], false⟩,
  ⟨.func, 1, 8, [.nilf], false⟩,
  ⟨.func, 1, 8, [.nilf], false⟩,
  ⟨.func, 1, 8, [.nilf], false⟩,
  ⟨.func, 1, 8, [.nilf], false⟩,
  ⟨.other, 0, 0, [], false⟩,
  ⟨.func, 1, 8, [.nilf], false⟩,
  ⟨.other, 0, 0, [], false⟩,
  ⟨.func, 1, 8, [.nilf], false⟩,
  ⟨.func, 1, 8, [.nilf], false⟩,
  ⟨.func, 1, 8, [.nilf], false⟩,
  ⟨.ptr 97, 1, 8, [.nilp], false⟩,
  ⟨.struct [(0, 9), (1, 4)], 2, 24, [.str ⟨0, 0⟩, .bool false], false⟩,
  ⟨.struct [(0, 9), (1, 4)], 2, 24, [.str ⟨0, 0⟩, .bool false], true⟩,
  ⟨.func, 1, 8, [.nilf], false⟩,
  ⟨.func, 1, 8, [.nilf], false⟩,
  ⟨.other, 0, 0, [], false⟩,
  ⟨.func, 1, 8, [.nilf], false⟩,
  ⟨.func, 1, 8, [.nilf], false⟩,
  ⟨.func, 1, 8, [.nilf], false⟩,
  ⟨.ptr 5, 1, 8, [.nilp], false⟩,
  ⟨.other, 0, 0, [], false⟩,
  ⟨.func, 1, 8, [.nilf], false⟩,
  ⟨.int .u64, 1, 8, [.int .u64 0], false⟩,
  ⟨.func, 1, 8, [.nilf], false⟩,
  ⟨.func, 1, 8, [.nilf], false⟩,
  ⟨.func, 1, 8, [.nilf], false⟩,
  ⟨.func, 1, 8, [.nilf], false⟩,
  ⟨.unsafe_, 1, 8, [.nilp], false⟩,
  ⟨.func, 1, 8, [.nilf], false⟩,
  ⟨.other, 0, 0, [], false⟩,
  ⟨.func, 1, 8, [.nilf], false⟩,
  ⟨.func, 1, 8, [.nilf], false⟩,
  ⟨.struct [(0, 17), (1, 17), (2, 17), (3, 9)], 4, 40, [.nilp, .nilp, .nilp, .str ⟨0, 0⟩], false⟩,
  ⟨.struct [(0, 17), (1, 17), (2, 17), (3, 9)], 4, 40, [.nilp, .nilp, .nilp, .str ⟨0, 0⟩], false⟩,
  ⟨.arr 0 16, 0, 0, [], false⟩,
  ⟨.struct [(0, 119)], 0, 0, [], false⟩,
  ⟨.struct [(0, 119)], 0, 0, [], false⟩,
  ⟨.func, 1, 8, [.nilf], false⟩,
  ⟨.int .u32, 1, 4, [.int .u32 0], false⟩,
  ⟨.int .u8, 1, 1, [.int .u8 0], false⟩,
  ⟨.int .u8, 1, 1, [.int .u8 0], false⟩,
  ⟨.func, 1, 8, [.nilf], false⟩,
  ⟨.int .i32, 1, 4, [.int .i32 0], false⟩,
  ⟨.int .i32, 1, 4, [.int .i32 0], false⟩,
  ⟨.struct [(0, 12), (1, 12), (2, 123), (3, 124), (4, 5), (5, 5), (6, 125), (7, 126), (8, 104), (9, 127), (10, 128)], 11, 48, [.int .u64 0, .int .u64 0, .int .u32 0, .int .u8 0, .int .u8 0, .int .u8 0, .int .u8 0, .nilf, .nilp, .int .i32 0, .int .i32 0], false⟩,
  ⟨.struct [(0, 12), (1, 12), (2, 123), (3, 124), (4, 5), (5, 5), (6, 125), (7, 126), (8, 104), (9, 127), (10, 128)], 11, 48, [.int .u64 0, .int .u64 0, .int .u32 0, .int .u8 0, .int .u8 0, .int .u8 0, .int .u8 0, .nilf, .nilp, .int .i32 0, .int .i32 0], false⟩]
noncomputable abbrev ty : Ty := tyOf tyL
theorem ty_ok : TyOk Try.prog ty := tyOk_of (by kernel_rfl)
theorem mixed : Try.prog.follows .mixedOrders = true := by kernel_rfl

/-- stagepost/mvcc.user -/
noncomputable def g35 : Fun := denF ty (gamOf []) Try.f35
theorem g35_ok : FunOk Try.prog 35 g35 := fun_ok ty_ok mixed gam_nil Try.func35 (fun args w => by simp)
/-- stagepost/mvcc.held -/
noncomputable def g36 : Fun := denF ty (gamOf []) Try.f36
theorem g36_ok : FunOk Try.prog 36 g36 := fun_ok ty_ok mixed gam_nil Try.func36 (fun args w => by simp)
/-- stagepost/hlc.Check -/
noncomputable def g37 : Fun := denF ty (gamOf []) Try.f37
theorem g37_ok : FunOk Try.prog 37 g37 := fun_ok ty_ok mixed gam_nil Try.func37 (fun args w => by simp)
/-- stagepost/mvcc.CheckCell -/
noncomputable def g11 : Fun := denF ty (gamOf [(35, g35), (36, g36), (37, g37)]) Try.f11
theorem g11_ok : FunOk Try.prog 11 g11 := fun_ok ty_ok mixed (gam_cons g35_ok (gam_cons g36_ok (gam_cons g37_ok gam_nil))) Try.func11 (fun args w => by simp)
/-- stagepost/mvcc.middle -/
noncomputable def g29 : Fun := denF ty (gamOf []) Try.f29
theorem g29_ok : FunOk Try.prog 29 g29 := fun_ok ty_ok mixed gam_nil Try.func29 (fun args w => by simp)
/-- (*strings.Builder).String -/
noncomputable def g52 : Fun := denF ty (gamOf []) Try.f52
theorem g52_ok : FunOk Try.prog 52 g52 := fun_ok ty_ok mixed gam_nil Try.func52 (fun args w => by simp)
/-- stagepost/enc.stamp -/
noncomputable def g78 : Fun := denF ty (gamOf []) Try.f78
theorem g78_ok : FunOk Try.prog 78 g78 := fun_ok ty_ok mixed gam_nil Try.func78 (fun args w => by simp)
/-- internal/abi.NoEscape -/
noncomputable def g83 : Fun := noEsc
theorem g83_ok : FunOk Try.prog 83 g83 := noEscape_ok Try.func83 (by kernel_rfl) (by kernel_rfl) (by kernel_rfl) (by kernel_rfl)
/-- (*strings.Builder).copyCheck -/
noncomputable def g72 : Fun := denF ty (gamOf [(83, g83)]) Try.f72
theorem g72_ok : FunOk Try.prog 72 g72 := fun_ok ty_ok mixed (gam_cons g83_ok gam_nil) Try.func72 (fun args w => by simp)
/-- (*strings.Builder).WriteByte -/
noncomputable def g87 : Fun := denF ty (gamOf [(72, g72)]) Try.f87
theorem g87_ok : FunOk Try.prog 87 g87 := fun_ok ty_ok mixed (gam_cons g72_ok gam_nil) Try.func87 (fun args w => by simp)
/-- stagepost/enc.fixed -/
noncomputable def g79 : Fun := denF ty (gamOf [(87, g87)]) Try.f79
theorem g79_ok : FunOk Try.prog 79 g79 := fun_ok ty_ok mixed (gam_cons g87_ok gam_nil) Try.func79 (fun args w => by simp)
/-- stagepost/enc.Stamp -/
noncomputable def g66 : Fun := denF ty (gamOf [(52, g52), (78, g78), (79, g79)]) Try.f66
theorem g66_ok : FunOk Try.prog 66 g66 := fun_ok ty_ok mixed (gam_cons g52_ok (gam_cons g78_ok (gam_cons g79_ok gam_nil))) Try.func66 (fun args w => by simp)
/-- stagepost/mvcc.stamp -/
noncomputable def g30 : Fun := denF ty (gamOf [(66, g66)]) Try.f30
theorem g30_ok : FunOk Try.prog 30 g30 := fun_ok ty_ok mixed (gam_cons g66_ok gam_nil) Try.func30 (fun args w => by simp)
/-- stagepost/mvcc.flag -/
noncomputable def g31 : Fun := denF ty (gamOf []) Try.f31
theorem g31_ok : FunOk Try.prog 31 g31 := fun_ok ty_ok mixed gam_nil Try.func31 (fun args w => by simp)
/-- stagepost/mvcc.Put -/
noncomputable def g7 : Fun := denF ty (gamOf [(11, g11), (29, g29), (30, g30), (31, g31)]) Try.f7
theorem g7_ok : FunOk Try.prog 7 g7 := fun_ok ty_ok mixed (gam_cons g11_ok (gam_cons g29_ok (gam_cons g30_ok (gam_cons g31_ok gam_nil)))) Try.func7 (fun args w => by simp)
/-- stagepost/stagepostlaw23.st -/
noncomputable def g8 : Fun := denF ty (gamOf []) Try.f8
theorem g8_ok : FunOk Try.prog 8 g8 := fun_ok ty_ok mixed gam_nil Try.func8 (fun args w => by simp)
/-- (*stagepost/mvcc.reader).bytes -/
noncomputable def g58 : Fun := denF ty (gamOf []) Try.f58
theorem g58_ok : FunOk Try.prog 58 g58 := fun_ok ty_ok mixed gam_nil Try.func58 (fun args w => by simp)
/-- (*stagepost/mvcc.reader).of -/
noncomputable def g32 : Fun := denF ty (gamOf [(58, g58)]) Try.f32
theorem g32_ok : FunOk Try.prog 32 g32 := fun_ok ty_ok mixed (gam_cons g58_ok gam_nil) Try.func32 (fun args w => by simp)
/-- stagepost/enc.unfixed -/
noncomputable def g80 : Fun := denF ty (gamOf []) Try.f80
theorem g80_ok : FunOk Try.prog 80 g80 := fun_ok ty_ok mixed gam_nil Try.func80 (fun args w => by simp)
/-- stagepost/enc.Unstamp -/
noncomputable def g67 : Fun := denF ty (gamOf [(78, g78), (80, g80)]) Try.f67
theorem g67_ok : FunOk Try.prog 67 g67 := fun_ok ty_ok mixed (gam_cons g78_ok (gam_cons g80_ok gam_nil)) Try.func67 (fun args w => by simp)
/-- (*stagepost/mvcc.reader).stamp -/
noncomputable def g33 : Fun := denF ty (gamOf [(58, g58), (67, g67)]) Try.f33
theorem g33_ok : FunOk Try.prog 33 g33 := fun_ok ty_ok mixed (gam_cons g58_ok (gam_cons g67_ok gam_nil)) Try.func33 (fun args w => by simp)
/-- (*stagepost/mvcc.reader).flag -/
noncomputable def g34 : Fun := denF ty (gamOf [(58, g58)]) Try.f34
theorem g34_ok : FunOk Try.prog 34 g34 := fun_ok ty_ok mixed (gam_cons g58_ok gam_nil) Try.func34 (fun args w => by simp)
/-- stagepost/mvcc.Cell -/
noncomputable def g10 : Fun := denF ty (gamOf [(7, g7), (32, g32), (33, g33), (34, g34)]) Try.f10
theorem g10_ok : FunOk Try.prog 10 g10 := fun_ok ty_ok mixed (gam_cons g7_ok (gam_cons g32_ok (gam_cons g33_ok (gam_cons g34_ok gam_nil)))) Try.func10 (fun args w => by simp)
/-- stagepost/mvcc.Lift -/
noncomputable def g20 : Fun := denF ty (gamOf [(29, g29), (35, g35)]) Try.f20
theorem g20_ok : FunOk Try.prog 20 g20 := fun_ok ty_ok mixed (gam_cons g29_ok (gam_cons g35_ok gam_nil)) Try.func20 (fun args w => by simp)
/-- stagepost/stagepostlaw23.lives -/
noncomputable def g9 : Fun := denF ty (gamOf [(7, g7), (8, g8), (10, g10), (20, g20)]) Try.f9
theorem g9_ok : FunOk Try.prog 9 g9 := fun_ok ty_ok mixed (gam_cons g7_ok (gam_cons g8_ok (gam_cons g10_ok (gam_cons g20_ok gam_nil)))) Try.func9 (fun args w => by simp)
/-- stagepost/stagepostlaw23.MvccNames -/
noncomputable def g3 : Fun := denF ty (gamOf [(7, g7), (8, g8), (9, g9), (10, g10), (11, g11)]) Try.f3
theorem g3_ok : FunOk Try.prog 3 g3 := fun_ok ty_ok mixed (gam_cons g7_ok (gam_cons g8_ok (gam_cons g9_ok (gam_cons g10_ok (gam_cons g11_ok gam_nil))))) Try.func3 (fun args w => by simp)
end Go.Proofs.Ytlbigopkplckaaa
