import Derived.Test.YtodlaigjjknpkaaGreatDoorAmS11
noncomputable section
namespace Go.Proofs.YtodlaigjjknpkaaGreatDoor
open Go Go.Am
set_option maxRecDepth 100000
set_option linter.all false
def g208 : Fun:=Ql ty (gam J0 [(132,g132),(279,Qfp)]) Tryz.f208
theorem g208_ok : Qe Tryz.prog 208 g208:=Qf Qi Qj (Qg (J:=J0) (Qa Xl (Qa Xc (Qc Qd)))) Tryz.func208 (fun args w=>by simp)
def g129 : Fun:=Ql ty (gam J0 [(77,g77),(188,Qfx),(191,g191),(206,g206),(207,g207),(208,g208)]) Tryz.f129
theorem g129_ok : Qe Tryz.prog 129 g129:=Qf Qi Qj (Qg (J:=J0) (Qa NK (Qa Xh (Qa NW (Qa g206_ok (Qa QcL (Qa g208_ok (Qc Qd)))))))) Tryz.func129 (fun args w=>by simp)
def g79 : Fun:=Ql ty (gam J0 [(6,g6),(38,g38),(80,g80),(121,g121),(122,g122),(123,g123),(124,g124),(125,g125),(127,g127),(129,g129)]) Tryz.f79
theorem g79_ok : Qe Tryz.prog 79 g79:=Qf Qi Qj (Qg (J:=J0) (Qa g6_ok (Qa Qfj (Qa Qfb (Qa g121_ok (Qa g122_ok (Qa g123_ok (Qa g124_ok (Qa g125_ok (Qa g127_ok (Qa g129_ok (Qc Qd)))))))))))) Tryz.func79 (fun args w=>by simp)
def g78 : Fun:=Ql ty (gam J0 [(35,g35),(79,g79),(80,g80)]) Tryz.f78
theorem NJ : Qe Tryz.prog 78 g78:=Qf Qi Qj (Qg (J:=J0) (Qa Qfl (Qa g79_ok (Qa Qfb (Qc Qd))))) Tryz.func78 (fun args w=>by simp)
def Qdv : Fun:=Ql ty (gam J0 [(173,QaO),(232,g232),(233,g233)]) Tryz.f158
theorem Jy : Qe Tryz.prog 158 Qdv:=Qf Qi Qj (Qg (J:=J0) (Qa VK (Qa QcG (Qa QcF (Qc Qd))))) Tryz.func158 (fun args w=>by simp)
def g160 : Fun:=Ql ty (gam J0 [(147,Qdw),(173,QaO),(178,Qfy)]) Tryz.f160
theorem g160_ok : Qe Tryz.prog 160 g160:=Qf Qi Qj (Qg (J:=J0) (Qa JA (Qa VK (Qa Xi (Qc Qd))))) Tryz.func160 (fun args w=>by simp)
def QfA : Fun:=Ql ty (gam J0 [(160,g160)]) Tryz.f159
theorem Xj : Qe Tryz.prog 159 QfA:=Qf Qi Qj (Qg (J:=J0) (Qa g160_ok (Qc Qd))) Tryz.func159 (fun args w=>by simp)
def g227 : Fun:=Ql ty (gam J0 [(148,QfB),(173,QaO),(178,Qfy)]) Tryz.f227
theorem QcJ : Qe Tryz.prog 227 g227:=Qf Qi Qj (Qg (J:=J0) (Qa Jz (Qa VK (Qa Xi (Qc Qd))))) Tryz.func227 (fun args w=>by simp)
def Qfv : Fun:=Ql ty (gam J0 [(227,g227)]) Tryz.f226
theorem Xg : Qe Tryz.prog 226 Qfv:=Qf Qi Qj (Qg (J:=J0) (Qa QcJ (Qc Qd))) Tryz.func226 (fun args w=>by simp)
def Qfu : Fun:=Ql ty (gam J0 [(229,g229)]) Tryz.f228
theorem Xf : Qe Tryz.prog 228 Qfu:=Qf Qi Qj (Qg (J:=J0) (Qa QcI (Qc Qd))) Tryz.func228 (fun args w=>by simp)
def Qft : Fun:=Ql ty (gam J0 [(231,g231)]) Tryz.f230
theorem Xe : Qe Tryz.prog 230 Qft:=Qf Qi Qj (Qg (J:=J0) (Qa QcH (Qc Qd))) Tryz.func230 (fun args w=>by simp)
def g154 : Fun:=Ql ty (gam J0 [(34,g34),(70,g70),(78,g78),(158,Qdv),(159,QfA),(226,Qfv),(228,Qfu),(230,Qft)]) Tryz.f154
theorem g154_ok : Qe Tryz.prog 154 g154:=Qf Qi Qj (Qg (J:=J0) (Qa NL (Qa QaL (Qa NJ (Qa Jy (Qa Xj (Qa Xg (Qa Xf (Qa Xe (Qc Qd)))))))))) Tryz.func154 (fun args w=>by simp)
def g156 : Fun:=Ql ty (gam J0 [(100,QaP),(154,g154),(226,Qfv),(228,Qfu),(230,Qft)]) Tryz.f156
theorem QcS : Qe Tryz.prog 156 g156:=Qf Qi Qj (Qg (J:=J0) (Qa UH (Qa g154_ok (Qa Xg (Qa Xf (Qa Xe (Qc Qd))))))) Tryz.func156 (fun args w=>by simp)
def g155 : Fun:=Ql ty (gam J0 [(153,g153),(156,g156)]) Tryz.f155
theorem NZ : Qe Tryz.prog 155 g155:=Qf Qi Qj (Qg (J:=J0) (Qa QcT (Qa QcS (Qc Qd)))) Tryz.func155 (fun args w=>by simp)
def g157 : Fun:=Ql ty (gam J0 [(156,g156)]) Tryz.f157
theorem NY : Qe Tryz.prog 157 g157:=Qf Qi Qj (Qg (J:=J0) (Qa QcS (Qc Qd))) Tryz.func157 (fun args w=>by simp)
def g154b : Fun:=Ql ty (gam J0 [(34,g34),(70,g70),(78,g78),(155,g155),(157,g157),(158,Qdv),(159,QfA),(226,Qfv),(228,Qfu),(230,Qft)]) Tryz.f154
theorem g154b_ok : Qe Tryz.prog 154 g154b:=Qf Qi Qj (Qg (J:=J0) (Qa NL (Qa QaL (Qa NJ (Qa NZ (Qa NY (Qa Jy (Qa Xj (Qa Xg (Qa Xf (Qa Xe (Qc Qd)))))))))))) Tryz.func154 (fun args w=>by simp)
def g101 : Fun:=Ql ty (gam J0 [(100,QaP),(149,g149),(150,g150),(151,g151),(152,g152),(153,g153),(154,g154b),(155,g155),(157,g157),(158,Qdv),(159,QfA),(161,g161)]) Tryz.f101
theorem g101_ok : Qe Tryz.prog 101 g101:=Qf Qi Qj (Qg (J:=J0) (Qa UH (Qa g149_ok (Qa g150_ok (Qa g151_ok (Qa QcU (Qa QcT (Qa g154b_ok (Qa NZ (Qa NY (Qa Jy (Qa Xj (Qa NX (Qc Qd)))))))))))))) Tryz.func101 (fun args w=>by simp)
def g102 : Fun:=Ql ty (gam J0 []) Tryz.f102
theorem g102_ok : Qe Tryz.prog 102 g102:=Qf Qi Qj (Qg (J:=J0) (Qc Qd)) Tryz.func102 (fun args w=>by simp)
def g169 : Fun:=Ql ty (gam J0 [(100,QaP),(241,g241)]) Tryz.f169
theorem g169_ok : Qe Tryz.prog 169 g169:=Qf Qi Qj (Qg (J:=J0) (Qa UH (Qa NV (Qc Qd)))) Tryz.func169 (fun args w=>by simp)
def g171 : Fun:=Ql ty (gam J0 [(158,Qdv),(227,g227),(241,g241),(243,g243)]) Tryz.f171
theorem g171_ok : Qe Tryz.prog 171 g171:=Qf Qi Qj (Qg (J:=J0) (Qa Jy (Qa QcJ (Qa NV (Qa QcC (Qc Qd)))))) Tryz.func171 (fun args w=>by simp)
def g105 : Fun:=Ql ty (gam J0 [(168,g168),(169,g169),(171,g171)]) Tryz.f105
theorem g105_ok : Qe Tryz.prog 105 g105:=Qf Qi Qj (Qg (J:=J0) (Qa QcP (Qa g169_ok (Qa g171_ok (Qc Qd))))) Tryz.func105 (fun args w=>by simp)
end Go.Proofs.YtodlaigjjknpkaaGreatDoor
