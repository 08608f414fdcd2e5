import Derived.Test.YtodlaigjjknpkaaGreatDoorAmS1
noncomputable section
namespace Go.Proofs.YtodlaigjjknpkaaGreatDoor
open Go Go.Am
set_option maxRecDepth 100000
set_option linter.all false
def g336 : Fun:=QeW
theorem g336_ok : Qe Tryz.prog 336 g336:=noEscape_ok Tryz.func336 (by kernel_rfl) (by kernel_rfl) (by kernel_rfl) (by kernel_rfl)
def g261 : Fun:=Ql ty (gam J0 [(336,g336)]) Tryz.f261
theorem NS : Qe Tryz.prog 261 g261:=Qf Qi Qj (Qg (J:=J0) (Qa g336_ok (Qc Qd))) Tryz.func261 (fun args w=>by simp)
def g392 : Fun:=mnzF 5
theorem g392_ok : Qe Tryz.prog 392 g392:=makeNoZero_ok (t:=132) (e:=5) Tryz.func392 (by kernel_rfl) (by kernel_rfl) (by kernel_rfl) (by kernel_rfl) Tryz.underlying132
def g365 : Fun:=Ql ty (gam J0 [(392,g392)]) Tryz.f365
theorem g365_ok : Qe Tryz.prog 365 g365:=Qf Qi Qj (Qg (J:=J0) (Qa g392_ok (Qc Qd))) Tryz.func365 (fun args w=>by simp)
def g314 : Fun:=Ql ty (gam J0 [(261,g261),(365,g365)]) Tryz.f314
theorem g314_ok : Qe Tryz.prog 314 g314:=Qf Qi Qj (Qg (J:=J0) (Qa NS (Qa g365_ok (Qc Qd)))) Tryz.func314 (fun args w=>by simp)
end Go.Proofs.YtodlaigjjknpkaaGreatDoor
