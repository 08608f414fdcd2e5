import Derived.Test.YtodlaigjjknpkaaGreatDoorAmS8
noncomputable section
namespace Go.Proofs.YtodlaigjjknpkaaGreatDoor
open Go Go.Am
set_option maxRecDepth 100000
set_option linter.all false
def Qfp : Fun:=Ql ty (gam J0 []) Tryz.f279
theorem Xc : Qe Tryz.prog 279 Qfp:=Qf Qi Qj (Qg (J:=J0) (Qc Qd)) Tryz.func279 (fun args w=>by simp)
def g385 : Fun:=Ql ty (gam J0 []) Tryz.f385
theorem g385_ok : Qe Tryz.prog 385 g385:=Qf Qi Qj (Qg (J:=J0) (Qc Qd)) Tryz.func385 (fun args w=>by simp)
def g352 : Fun:=Ql ty (gam J0 [(279,Qfp),(385,g385)]) Tryz.f352
theorem Qcg : Qe Tryz.prog 352 g352:=Qf Qi Qj (Qg (J:=J0) (Qa Xc (Qa g385_ok (Qc Qd)))) Tryz.func352 (fun args w=>by simp)
def g276 : Fun:=Ql ty (gam J0 [(76,g76)]) Tryz.f276
theorem Qcx : Qe Tryz.prog 276 g276:=Qf Qi Qj (Qg (J:=J0) (Qa X2 (Qc Qd))) Tryz.func276 (fun args w=>by simp)
def g277 : Fun:=Ql ty (gam J0 [(75,g75)]) Tryz.f277
theorem NQ : Qe Tryz.prog 277 g277:=Qf Qi Qj (Qg (J:=J0) (Qa Qfc (Qc Qd))) Tryz.func277 (fun args w=>by simp)
def g278 : Fun:=Ql ty (gam J0 []) Tryz.f278
theorem Qcw : Qe Tryz.prog 278 g278:=Qf Qi Qj (Qg (J:=J0) (Qc Qd)) Tryz.func278 (fun args w=>by simp)
def g194 : Fun:=Ql ty (gam J0 [(83,g83),(276,g276),(277,g277),(278,g278),(279,Qfp)]) Tryz.f194
theorem QcM : Qe Tryz.prog 194 g194:=Qf Qi Qj (Qg (J:=J0) (Qa X1 (Qa Qcx (Qa NQ (Qa Qcw (Qa Xc (Qc Qd))))))) Tryz.func194 (fun args w=>by simp)
def g184 : Fun:=Ql ty (gam J0 []) Tryz.f184
theorem g184_ok : Qe Tryz.prog 184 g184:=Qf Qi Qj (Qg (J:=J0) (Qc Qd)) Tryz.func184 (fun args w=>by simp)
def g114 : Fun:=Ql ty (gam J0 [(184,g184)]) Tryz.f114
theorem QcX : Qe Tryz.prog 114 g114:=Qf Qi Qj (Qg (J:=J0) (Qa g184_ok (Qc Qd))) Tryz.func114 (fun args w=>by simp)
def g343 : Fun:=Ql ty (gam J0 [(114,g114)]) Tryz.f343
theorem NN : Qe Tryz.prog 343 g343:=Qf Qi Qj (Qg (J:=J0) (Qa QcX (Qc Qd))) Tryz.func343 (fun args w=>by simp)
def g183 : Fun:=Ql ty (gam J0 []) Tryz.f183
theorem g183_ok : Qe Tryz.prog 183 g183:=Qf Qi Qj (Qg (J:=J0) (Qc Qd)) Tryz.func183 (fun args w=>by simp)
def g113 : Fun:=Ql ty (gam J0 [(117,g117),(183,g183)]) Tryz.f113
theorem QcY : Qe Tryz.prog 113 g113:=Qf Qi Qj (Qg (J:=J0) (Qa QcW (Qa g183_ok (Qc Qd)))) Tryz.func113 (fun args w=>by simp)
def Qdu : Fun:=Ql ty (gam J0 []) Tryz.f346
theorem Jx : Qe Tryz.prog 346 Qdu:=Qf Qi Qj (Qg (J:=J0) (Qc Qd)) Tryz.func346 (fun args w=>by simp)
def g344 : Fun:=Ql ty (gam J0 [(113,g113),(346,Qdu)]) Tryz.f344
theorem NM : Qe Tryz.prog 344 g344:=Qf Qi Qj (Qg (J:=J0) (Qa QcY (Qa Jx (Qc Qd)))) Tryz.func344 (fun args w=>by simp)
def g353 : Fun:=Ql ty (gam J0 [(346,Qdu)]) Tryz.f353
theorem Qcf : Qe Tryz.prog 353 g353:=Qf Qi Qj (Qg (J:=J0) (Qa Jx (Qc Qd))) Tryz.func353 (fun args w=>by simp)
def g354 : Fun:=Ql ty (gam J0 [(343,g343)]) Tryz.f354
theorem g354_ok : Qe Tryz.prog 354 g354:=Qf Qi Qj (Qg (J:=J0) (Qa NN (Qc Qd))) Tryz.func354 (fun args w=>by simp)
def g355 : Fun:=Ql ty (gam J0 [(346,Qdu)]) Tryz.f355
theorem Qce : Qe Tryz.prog 355 g355:=Qf Qi Qj (Qg (J:=J0) (Qa Jx (Qc Qd))) Tryz.func355 (fun args w=>by simp)
def g296 : Fun:=Ql ty (gam J0 [(194,g194),(343,g343),(344,g344),(346,Qdu),(353,g353),(354,g354),(355,g355)]) Tryz.f296
theorem NP : Qe Tryz.prog 296 g296:=Qf Qi Qj (Qg (J:=J0) (Qa QcM (Qa NN (Qa NM (Qa Jx (Qa Qcf (Qa g354_ok (Qa Qce (Qc Qd))))))))) Tryz.func296 (fun args w=>by simp)
def g294 : Fun:=Ql ty (gam J0 [(40,g40),(132,g132),(133,g133)]) Tryz.f294
theorem Qco : Qe Tryz.prog 294 g294:=Qf Qi Qj (Qg (J:=J0) (Qa W9 (Qa Xl (Qa QcV (Qc Qd))))) Tryz.func294 (fun args w=>by simp)
def g207 : Fun:=Ql ty (gam J0 [(277,g277),(278,g278),(279,Qfp),(294,g294)]) Tryz.f207
theorem QcL : Qe Tryz.prog 207 g207:=Qf Qi Qj (Qg (J:=J0) (Qa NQ (Qa Qcw (Qa Xc (Qa Qco (Qc Qd)))))) Tryz.func207 (fun args w=>by simp)
def g340 : Fun:=Ql ty (gam J0 [(207,g207),(344,g344),(353,g353),(355,g355)]) Tryz.f340
theorem NO : Qe Tryz.prog 340 g340:=Qf Qi Qj (Qg (J:=J0) (Qa QcL (Qa NM (Qa Qcf (Qa Qce (Qc Qd)))))) Tryz.func340 (fun args w=>by simp)
end Go.Proofs.YtodlaigjjknpkaaGreatDoor
