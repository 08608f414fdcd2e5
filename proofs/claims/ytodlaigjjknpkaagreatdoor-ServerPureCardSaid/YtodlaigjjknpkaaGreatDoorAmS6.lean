import Derived.Test.YtodlaigjjknpkaaGreatDoorAmH308
noncomputable section
namespace Go.Proofs.YtodlaigjjknpkaaGreatDoor
open Go Go.Am
set_option maxRecDepth 100000
set_option linter.all false
def g361 : Fun:=Ql ty (gam J0 []) Tryz.f361
theorem g361_ok : Qe Tryz.prog 361 g361:=Qf Qi Qj (Qg (J:=J0) (Qc Qd)) Tryz.func361 (fun args w=>by simp)
def g309 : Fun:=Ql ty (gam J0 [(361,g361)]) Tryz.f309
theorem Qcm : Qe Tryz.prog 309 g309:=Qf Qi Qj (Qg (J:=J0) (Qa g361_ok (Qc Qd))) Tryz.func309 (fun args w=>by simp)
def G5 : Fun:=Ql ty (YB J0 [] [] (Kk ty (YB J0 [(146,g146),(147,Qdw),(178,Qfy),(308,Qfo),(309,g309)] [] Zw))) Tryz.f361
theorem it361_229_ok : ItOk Tryz.prog 361 G5:=Qb9 Qi Qj (Y7 (J:=J0) (Qc Qd) (Qc Wq) (Db Qi Qj (Y7 (J:=J0) (Qa Xk (Qa JA (Qa Xi (Qa D7 (Qa Qcm (Qc Qd)))))) (Qc Wq) Yo))) Tryz.func361 (fun args w=>by simp)
def g229 : Fun:=Ql ty (YB J0 [(146,g146),(147,Qdw),(178,Qfy),(308,Qfo),(309,g309)] [(361,G5)] Zw) Tryz.f229
theorem QcI : Qe Tryz.prog 229 g229:=Qf Qi Qj (Y7 (J:=J0) (Qa Xk (Qa JA (Qa Xi (Qa D7 (Qa Qcm (Qc Qd)))))) (Qa it361_229_ok (Qc Wq)) Yo) Tryz.func229 (fun args w=>by simp)
def g233 : Fun:=Ql ty (gam J0 []) Tryz.f233
theorem QcF : Qe Tryz.prog 233 g233:=Qf Qi Qj (Qg (J:=J0) (Qc Qd)) Tryz.func233 (fun args w=>by simp)
def g310 : Fun:=Ql ty (gam J0 []) Tryz.f310
theorem Qcl : Qe Tryz.prog 310 g310:=Qf Qi Qj (Qg (J:=J0) (Qc Qd)) Tryz.func310 (fun args w=>by simp)
def g232 : Fun:=Ql ty (gam J0 [(99,g99),(233,g233),(254,g254),(310,g310)]) Tryz.f232
theorem QcG : Qe Tryz.prog 232 g232:=Qf Qi Qj (Qg (J:=J0) (Qa QaH (Qa QcF (Qa QcA (Qa Qcl (Qc Qd)))))) Tryz.func232 (fun args w=>by simp)
def g231 : Fun:=Ql ty (gam J0 [(147,Qdw),(232,g232),(310,g310)]) Tryz.f231
theorem QcH : Qe Tryz.prog 231 g231:=Qf Qi Qj (Qg (J:=J0) (Qa JA (Qa QcG (Qa Qcl (Qc Qd))))) Tryz.func231 (fun args w=>by simp)
def g241 : Fun:=Ql ty (gam J0 [(234,g234),(235,g235)]) Tryz.f241
theorem NV : Qe Tryz.prog 241 g241:=Qf Qi Qj (Qg (J:=J0) (Qa QcE (Qa QcD (Qc Qd)))) Tryz.func241 (fun args w=>by simp)
def g243 : Fun:=Ql ty (gam J0 []) Tryz.f243
theorem QcC : Qe Tryz.prog 243 g243:=Qf Qi Qj (Qg (J:=J0) (Qc Qd)) Tryz.func243 (fun args w=>by simp)
def g168 : Fun:=Ql ty (gam J0 [(100,QaP)]) Tryz.f168
theorem QcP : Qe Tryz.prog 168 g168:=Qf Qi Qj (Qg (J:=J0) (Qa UH (Qc Qd))) Tryz.func168 (fun args w=>by simp)
def g262 : Fun:=Ql ty (gam J0 [(168,g168)]) Tryz.f262
theorem g262_ok : Qe Tryz.prog 262 g262:=Qf Qi Qj (Qg (J:=J0) (Qa QcP (Qc Qd))) Tryz.func262 (fun args w=>by simp)
def g338 : Fun:=Ql ty (gam J0 [(76,g76)]) Tryz.f338
theorem g338_ok : Qe Tryz.prog 338 g338:=Qf Qi Qj (Qg (J:=J0) (Qa X2 (Qc Qd))) Tryz.func338 (fun args w=>by simp)
def g264 : Fun:=Ql ty (gam J0 [(76,g76),(263,g263),(338,g338)]) Tryz.f264
theorem g264_ok : Qe Tryz.prog 264 g264:=Qf Qi Qj (Qg (J:=J0) (Qa X2 (Qa NR (Qa g338_ok (Qc Qd))))) Tryz.func264 (fun args w=>by simp)
def g187 : Fun:=Ql ty (gam J0 [(152,g152),(229,g229),(231,g231),(241,g241),(243,g243),(262,g262),(263,g263),(264,g264)]) Tryz.f187
theorem g187_ok : Qe Tryz.prog 187 g187:=Qf Qi Qj (Qg (J:=J0) (Qa QcU (Qa QcI (Qa QcH (Qa NV (Qa QcC (Qa g262_ok (Qa NR (Qa g264_ok (Qc Qd)))))))))) Tryz.func187 (fun args w=>by simp)
def g120 : Fun:=Ql ty (gam J0 [(107,g107),(115,QfC),(187,g187)]) Tryz.f120
theorem g120_ok : Qe Tryz.prog 120 g120:=Qf Qi Qj (Qg (J:=J0) (Qa Qc0 (Qa Xm (Qa g187_ok (Qc Qd))))) Tryz.func120 (fun args w=>by simp)
def g77 : Fun:=Ql ty (gam J0 [(120,g120)]) Tryz.f77
theorem NK : Qe Tryz.prog 77 g77:=Qf Qi Qj (Qg (J:=J0) (Qa g120_ok (Qc Qd))) Tryz.func77 (fun args w=>by simp)
def g37 : Fun:=Ql ty (gam J0 [(75,g75),(76,g76),(77,g77)]) Tryz.f37
theorem Qfk : Qe Tryz.prog 37 g37:=Qf Qi Qj (Qg (J:=J0) (Qa Qfc (Qa X2 (Qa NK (Qc Qd))))) Tryz.func37 (fun args w=>by simp)
def g38 : Fun:=Ql ty (gam J0 [(37,g37)]) Tryz.f38
theorem Qfj : Qe Tryz.prog 38 g38:=Qf Qi Qj (Qg (J:=J0) (Qa Qfk (Qc Qd))) Tryz.func38 (fun args w=>by simp)
def g34 : Fun:=Ql ty (gam J0 [(35,g35),(36,g36),(37,g37),(38,g38)]) Tryz.f34
theorem NL : Qe Tryz.prog 34 g34:=Qf Qi Qj (Qg (J:=J0) (Qa Qfl (Qa g36_ok (Qa Qfk (Qa Qfj (Qc Qd)))))) Tryz.func34 (fun args w=>by simp)
def g71 : Fun:=Ql ty (gam J0 [(115,QfC)]) Tryz.f71
theorem Kf : Qe Tryz.prog 71 g71:=Qf Qi Qj (Qg (J:=J0) (Qa Xm (Qc Qd))) Tryz.func71 (fun args w=>by simp)
def g70 : Fun:=Ql ty (gam J0 [(71,g71)]) Tryz.f70
theorem QaL : Qe Tryz.prog 70 g70:=Qf Qi Qj (Qg (J:=J0) (Qa Kf (Qc Qd))) Tryz.func70 (fun args w=>by simp)
end Go.Proofs.YtodlaigjjknpkaaGreatDoor
