import Derived.Test.YtodlaigjjknpkaaGreatDoorAmH174
noncomputable section
namespace Go.Proofs.YtodlaigjjknpkaaGreatDoor
open Go Go.Am
set_option maxRecDepth 100000
set_option linter.all false
def g175 : Fun:=Ql ty (gam J0 [(250,g250)]) Tryz.f175
theorem g175_ok : Qe Tryz.prog 175 g175:=Qf Qi Qj (Qg (J:=J0) (Qa g250_ok (Qc Qd))) Tryz.func175 (fun args w=>by simp)
def g108 : Fun:=Ql ty (gam J0 [(148,QfB),(173,QaO),(174,g174'),(175,g175)]) Tryz.f108
theorem g108_ok : Qe Tryz.prog 108 g108:=Qf Qi Qj (Qg (J:=J0) (Qa Jz (Qa VK (Qa g174'_ok (Qa g175_ok (Qc Qd)))))) Tryz.func108 (fun args w=>by simp)
def g251 : Fun:=Ql ty (gam J0 [(323,g323)]) Tryz.f251
theorem g251_ok : Qe Tryz.prog 251 g251:=Qf Qi Qj (Qg (J:=J0) (Qa Qcj (Qc Qd))) Tryz.func251 (fun args w=>by simp)
def g176 : Fun:=Ql ty (gam J0 [(251,g251)]) Tryz.f176
theorem g176_ok : Qe Tryz.prog 176 g176:=Qf Qi Qj (Qg (J:=J0) (Qa g251_ok (Qc Qd))) Tryz.func176 (fun args w=>by simp)
def g376 : Fun:=Ql ty (gam J0 []) Tryz.f376
theorem g376_ok : Qe Tryz.prog 376 g376:=Qf Qi Qj (Qg (J:=J0) (Qc Qd)) Tryz.func376 (fun args w=>by simp)
def g324 : Fun:=Ql ty (gam J0 [(376,g376)]) Tryz.f324
theorem g324_ok : Qe Tryz.prog 324 g324:=Qf Qi Qj (Qg (J:=J0) (Qa g376_ok (Qc Qd))) Tryz.func324 (fun args w=>by simp)
def g252 : Fun:=Ql ty (gam J0 [(324,g324)]) Tryz.f252
theorem g252_ok : Qe Tryz.prog 252 g252:=Qf Qi Qj (Qg (J:=J0) (Qa g324_ok (Qc Qd))) Tryz.func252 (fun args w=>by simp)
def g377 : Fun:=Ql ty (gam J0 []) Tryz.f377
theorem g377_ok : Qe Tryz.prog 377 g377:=Qf Qi Qj (Qg (J:=J0) (Qc Qd)) Tryz.func377 (fun args w=>by simp)
def g325 : Fun:=Ql ty (gam J0 [(377,g377)]) Tryz.f325
theorem g325_ok : Qe Tryz.prog 325 g325:=Qf Qi Qj (Qg (J:=J0) (Qa g377_ok (Qc Qd))) Tryz.func325 (fun args w=>by simp)
def g253 : Fun:=Ql ty (gam J0 [(325,g325)]) Tryz.f253
theorem g253_ok : Qe Tryz.prog 253 g253:=Qf Qi Qj (Qg (J:=J0) (Qa g325_ok (Qc Qd))) Tryz.func253 (fun args w=>by simp)
def g177 : Fun:=Ql ty (gam J0 [(252,g252),(253,g253)]) Tryz.f177
theorem g177_ok : Qe Tryz.prog 177 g177:=Qf Qi Qj (Qg (J:=J0) (Qa g252_ok (Qa g253_ok (Qc Qd)))) Tryz.func177 (fun args w=>by simp)
def g109 : Fun:=Ql ty (gam J0 [(176,g176),(177,g177)]) Tryz.f109
theorem g109_ok : Qe Tryz.prog 109 g109:=Qf Qi Qj (Qg (J:=J0) (Qa g176_ok (Qa g177_ok (Qc Qd)))) Tryz.func109 (fun args w=>by simp)
def g66 : Fun:=Ql ty (gam J0 [(25,g25),(54,g54),(100,QaP),(101,g101),(102,g102),(103,g103),(105,g105),(106,g106),(107,g107),(108,g108),(109,g109)]) Tryz.f66
theorem g66_ok : Qe Tryz.prog 66 g66:=Qf Qi Qj (Qg (J:=J0) (Qa Qfq (Qa Qfe (Qa UH (Qa g101_ok (Qa g102_ok (Qa N5 (Qa g105_ok (Qa N4 (Qa Qc0 (Qa g108_ok (Qa g109_ok (Qc Qd))))))))))))) Tryz.func66 (fun args w=>by simp)
def g67 : Fun:=Ql ty (gam J0 [(111,g111),(112,g112),(113,g113),(114,g114)]) Tryz.f67
theorem g67_ok : Qe Tryz.prog 67 g67:=Qf Qi Qj (Qg (J:=J0) (Qa QcZ (Qa N3 (Qa QcY (Qa QcX (Qc Qd)))))) Tryz.func67 (fun args w=>by simp)
def g68 : Fun:=Ql ty (gam J0 [(40,g40),(74,g74)]) Tryz.f68
theorem g68_ok : Qe Tryz.prog 68 g68:=Qf Qi Qj (Qg (J:=J0) (Qa W9 (Qa QaJ (Qc Qd)))) Tryz.func68 (fun args w=>by simp)
def g69 : Fun:=Ql ty (gam J0 [(40,g40)]) Tryz.f69
theorem g69_ok : Qe Tryz.prog 69 g69:=Qf Qi Qj (Qg (J:=J0) (Qa W9 (Qc Qd))) Tryz.func69 (fun args w=>by simp)
def g31 : Fun:=Ql ty (gam J0 [(8,g8),(65,g65'),(66,g66),(67,g67),(68,g68),(69,g69)]) Tryz.f31
theorem g31_ok : Qe Tryz.prog 31 g31:=Qf Qi Qj (Qg (J:=J0) (Qa g8_ok (Qa g65'_ok (Qa g66_ok (Qa g67_ok (Qa g68_ok (Qa g69_ok (Qc Qd)))))))) Tryz.func31 (fun args w=>by simp)
def g32 : Fun:=Ql ty (gam J0 []) Tryz.f32
theorem g32_ok : Qe Tryz.prog 32 g32:=Qf Qi Qj (Qg (J:=J0) (Qc Qd)) Tryz.func32 (fun args w=>by simp)
def g12 : Fun:=Ql ty (gam J0 [(30,g30),(31,g31),(32,g32)]) Tryz.f12
theorem g12_ok : Qe Tryz.prog 12 g12:=Qf Qi Qj (Qg (J:=J0) (Qa g30_ok (Qa g31_ok (Qa g32_ok (Qc Qd))))) Tryz.func12 (fun args w=>by simp)
def gd70 : Fun:=denD ty (gam J0 [(71,g71)]) Tryz.f70
theorem gd70_ok : Uw Tryz.prog 70 gd70:=dfun_ok Qi Qj (Qg (J:=J0) (Qa Kf (Qc Qd))) Tryz.func70 (fun args w=>by simp)
def g33 : Fun:=Ql ty (gamD J0 [(34,g34),(70,g70),(71,g71),(78,g78),(155,g155),(157,g157),(158,Qdv),(159,QfA),(226,Qfv),(228,Qfu),(230,Qft)] [] [(70,gd70)] Zw) Tryz.f33
theorem Qfm : Qe Tryz.prog 33 g33:=Qf Qi Qj (gamD_ok (J:=J0) (Qa NL (Qa QaL (Qa Kf (Qa NJ (Qa NZ (Qa NY (Qa Jy (Qa Xj (Qa Xg (Qa Xf (Qa Xe (Qc Qd)))))))))))) (Qc Wq) (Qa gd70_ok (Qc N6)) Yo) Tryz.func33 (fun args w=>by simp)
def g13 : Fun:=Ql ty (gam J0 [(33,g33),(34,g34)]) Tryz.f13
theorem g13_ok : Qe Tryz.prog 13 g13:=Qf Qi Qj (Qg (J:=J0) (Qa Qfm (Qa NL (Qc Qd)))) Tryz.func13 (fun args w=>by simp)
end Go.Proofs.YtodlaigjjknpkaaGreatDoor
