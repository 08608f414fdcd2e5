import Derived.Test.YtodlaigjjknpkaaGreatDoorAmS3
noncomputable section
namespace Go.Proofs.YtodlaigjjknpkaaGreatDoor
open Go Go.Am
set_option maxRecDepth 100000
set_option linter.all false
def D8 : Fun:=Ql ty (gam J0 [(50,g50)]) Tryz.f116
theorem VL : Qe Tryz.prog 116 D8:=Qf Qi Qj (Qg (J:=J0) (Qa Wp (Qc Qd))) Tryz.func116 (fun args w=>by simp)
def g74 : Fun:=Ql ty (gam J0 [(116,D8)]) Tryz.f74
theorem QaJ : Qe Tryz.prog 74 g74:=Qf Qi Qj (Qg (J:=J0) (Qa VL (Qc Qd))) Tryz.func74 (fun args w=>by simp)
def g36 : Fun:=Ql ty (gam J0 [(72,g72),(73,g73),(74,g74)]) Tryz.f36
theorem g36_ok : Qe Tryz.prog 36 g36:=Qf Qi Qj (Qg (J:=J0) (Qa QaK (Qa Qfd (Qa QaJ (Qc Qd))))) Tryz.func36 (fun args w=>by simp)
def g117 : Fun:=Ql ty (gam J0 []) Tryz.f117
theorem QcW : Qe Tryz.prog 117 g117:=Qf Qi Qj (Qg (J:=J0) (Qc Qd)) Tryz.func117 (fun args w=>by simp)
def g186 : Fun:=Ql ty (gam J0 [(261,g261)]) Tryz.f186
theorem g186_ok : Qe Tryz.prog 186 g186:=Qf Qi Qj (Qg (J:=J0) (Qa NS (Qc Qd))) Tryz.func186 (fun args w=>by simp)
def g118 : Fun:=Ql ty (gam J0 [(186,g186)]) Tryz.f118
theorem g118_ok : Qe Tryz.prog 118 g118:=Qf Qi Qj (Qg (J:=J0) (Qa g186_ok (Qc Qd))) Tryz.func118 (fun args w=>by simp)
def g75 : Fun:=Ql ty (gam J0 [(117,g117),(118,g118),(119,g119)]) Tryz.f75
theorem Qfc : Qe Tryz.prog 75 g75:=Qf Qi Qj (Qg (J:=J0) (Qa QcW (Qa g118_ok (Qa N2 (Qc Qd))))) Tryz.func75 (fun args w=>by simp)
def Qfr : Fun:=Ql ty (gam J0 []) Tryz.f244
theorem Xd : Qe Tryz.prog 244 Qfr:=Qf Qi Qj (Qg (J:=J0) (Qc Qd)) Tryz.func244 (fun args w=>by simp)
def g337 : Fun:=Ql ty (gam J0 []) Tryz.f337
theorem g337_ok : Qe Tryz.prog 337 g337:=Qf Qi Qj (Qg (J:=J0) (Qc Qd)) Tryz.func337 (fun args w=>by simp)
def g263 : Fun:=Ql ty (gam J0 [(337,g337)]) Tryz.f263
theorem NR : Qe Tryz.prog 263 g263:=Qf Qi Qj (Qg (J:=J0) (Qa g337_ok (Qc Qd))) Tryz.func263 (fun args w=>by simp)
def g245 : Fun:=Ql ty (gam J0 [(263,g263)]) Tryz.f245
theorem g245_ok : Qe Tryz.prog 245 g245:=Qf Qi Qj (Qg (J:=J0) (Qa NR (Qc Qd))) Tryz.func245 (fun args w=>by simp)
def Qbm (J : Qm) (a0 : Str) (h : H) (k : Bool→H→Prop) : Prop :=
fB (Bool.not (Str.beq a0 a0)) fun b1=>
k b1 h
def s212 : Str→H→(Bool→H→Prop)→Prop:=Qbm J0
def w212 (c : Str→H→(Bool→H→Prop)→Prop) : Fun:=fun xs h k=>arg xs fun a0 xs=>QB xs <| asS a0 fun a0=>c a0 h fun r0 h=>k (.bool r0) h
theorem Qbl (J : Qm) (a0 : Str) (h : H) (k : AV→H→Prop) : Ql ty (gam J []) Tryz.f212 [(.str a0)] h k = Qbm J  a0 h (fun r0 h=>k (.bool r0) h):=by kernel_rfl
def g212 : Fun:=w212 s212
theorem QcK : Qe Tryz.prog 212 g212:=(Qf Qi Qj (Qg (J:=J0) (Qc Qd)) Tryz.func212 (fun args w=>by simp)).imp fun xs h k e0=>by
  obtain ⟨a0,xs0,rfl,e1⟩:=Qp e0
  obtain ⟨rfl,e2⟩:=Qt e1
  obtain ⟨a0,rfl,e3⟩:=QI.1 e2
  exact (Qbl J0  a0 h k).mpr e3
def g331 : Fun:=Ql ty (gam J0 [(212,g212)]) Tryz.f331
theorem g331_ok : Qe Tryz.prog 331 g331:=Qf Qi Qj (Qg (J:=J0) (Qa QcK (Qc Qd))) Tryz.func331 (fun args w=>by simp)
def g379 : Fun:=Ql ty (gam J0 []) Tryz.f379
theorem g379_ok : Qe Tryz.prog 379 g379:=Qf Qi Qj (Qg (J:=J0) (Qc Qd)) Tryz.func379 (fun args w=>by simp)
def g332 : Fun:=Ql ty (gam J0 [(379,g379)]) Tryz.f332
theorem g332_ok : Qe Tryz.prog 332 g332:=Qf Qi Qj (Qg (J:=J0) (Qa g379_ok (Qc Qd))) Tryz.func332 (fun args w=>by simp)
def g258 : Fun:=Ql ty (gam J0 [(86,g86),(331,g331),(332,g332)]) Tryz.f258
theorem NT : Qe Tryz.prog 258 g258:=Qf Qi Qj (Qg (J:=J0) (Qa Qfa (Qa g331_ok (Qa g332_ok (Qc Qd))))) Tryz.func258 (fun args w=>by simp)
def g246 : Fun:=Ql ty (gam J0 [(258,g258)]) Tryz.f246
theorem QcB : Qe Tryz.prog 246 g246:=Qf Qi Qj (Qg (J:=J0) (Qa NT (Qc Qd))) Tryz.func246 (fun args w=>by simp)
def g172 : Fun:=Ql ty (gam J0 [(244,Qfr),(245,g245),(246,g246)]) Tryz.f172
theorem g172_ok : Qe Tryz.prog 172 g172:=Qf Qi Qj (Qg (J:=J0) (Qa Xd (Qa g245_ok (Qa QcB (Qc Qd))))) Tryz.func172 (fun args w=>by simp)
def g107 : Fun:=Ql ty (gam J0 [(172,g172)]) Tryz.f107
theorem Qc0 : Qe Tryz.prog 107 g107:=Qf Qi Qj (Qg (J:=J0) (Qa g172_ok (Qc Qd))) Tryz.func107 (fun args w=>by simp)
def g185 : Fun:=Ql ty (gam J0 [(173,QaO)]) Tryz.f185
theorem g185_ok : Qe Tryz.prog 185 g185:=Qf Qi Qj (Qg (J:=J0) (Qa VK (Qc Qd))) Tryz.func185 (fun args w=>by simp)
def QfC : Fun:=Ql ty (gam J0 [(185,g185)]) Tryz.f115
theorem Xm : Qe Tryz.prog 115 QfC:=Qf Qi Qj (Qg (J:=J0) (Qa g185_ok (Qc Qd))) Tryz.func115 (fun args w=>by simp)
end Go.Proofs.YtodlaigjjknpkaaGreatDoor
