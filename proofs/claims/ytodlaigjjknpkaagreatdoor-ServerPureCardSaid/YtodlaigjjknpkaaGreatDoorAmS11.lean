import Derived.Test.YtodlaigjjknpkaaGreatDoorAmS10
noncomputable section
namespace Go.Proofs.YtodlaigjjknpkaaGreatDoor
open Go Go.Am
set_option maxRecDepth 100000
set_option linter.all false
def g341 : Fun:=Ql ty (gam J0 []) Tryz.f341
theorem g341_ok : Qe Tryz.prog 341 g341:=Qf Qi Qj (Qg (J:=J0) (Qc Qd)) Tryz.func341 (fun args w=>by simp)
def g280 : Fun:=Ql ty (gam J0 [(341,g341)]) Tryz.f280
theorem Qcv : Qe Tryz.prog 280 g280:=Qf Qi Qj (Qg (J:=J0) (Qa g341_ok (Qc Qd))) Tryz.func280 (fun args w=>by simp)
def g345 : Fun:=Ql ty (gam J0 []) Tryz.f345
theorem Qci : Qe Tryz.prog 345 g345:=Qf Qi Qj (Qg (J:=J0) (Qc Qd)) Tryz.func345 (fun args w=>by simp)
def g349 : Fun:=Ql ty (gam J0 [(46,g46),(132,g132)]) Tryz.f349
theorem g349_ok : Qe Tryz.prog 349 g349:=Qf Qi Qj (Qg (J:=J0) (Qa Kg (Qa Xl (Qc Qd)))) Tryz.func349 (fun args w=>by simp)
def g289 : Fun:=Ql ty (gam J0 [(119,g119),(276,g276),(277,g277),(280,g280),(315,g315),(345,g345),(349,g349)]) Tryz.f289
theorem Qcq : Qe Tryz.prog 289 g289:=Qf Qi Qj (Qg (J:=J0) (Qa N2 (Qa Qcx (Qa NQ (Qa Qcv (Qa Qck (Qa Qci (Qa g349_ok (Qc Qd))))))))) Tryz.func289 (fun args w=>by simp)
def g342 : Fun:=Ql ty (gam J0 []) Tryz.f342
theorem g342_ok : Qe Tryz.prog 342 g342:=Qf Qi Qj (Qg (J:=J0) (Qc Qd)) Tryz.func342 (fun args w=>by simp)
def g281 : Fun:=Ql ty (gam J0 [(289,g289),(342,g342),(343,g343),(344,g344),(345,g345),(346,Qdu)]) Tryz.f281
theorem g281_ok : Qe Tryz.prog 281 g281:=Qf Qi Qj (Qg (J:=J0) (Qa Qcq (Qa g342_ok (Qa NN (Qa NM (Qa Qci (Qa Jx (Qc Qd)))))))) Tryz.func281 (fun args w=>by simp)
def g195 : Fun:=Ql ty (gam J0 [(71,g71),(81,g81),(111,g111),(112,g112),(280,g280),(281,g281)]) Tryz.f195
theorem g195_ok : Qe Tryz.prog 195 g195:=Qf Qi Qj (Qg (J:=J0) (Qa Kf (Qa NI (Qa QcZ (Qa N3 (Qa Qcv (Qa g281_ok (Qc Qd)))))))) Tryz.func195 (fun args w=>by simp)
def g196 : Fun:=Ql ty (gam J0 [(46,g46)]) Tryz.f196
theorem g196_ok : Qe Tryz.prog 196 g196:=Qf Qi Qj (Qg (J:=J0) (Qa Kg (Qc Qd))) Tryz.func196 (fun args w=>by simp)
def g347 : Fun:=Ql ty (gam J0 []) Tryz.f347
theorem g347_ok : Qe Tryz.prog 347 g347:=Qf Qi Qj (Qg (J:=J0) (Qc Qd)) Tryz.func347 (fun args w=>by simp)
def g282 : Fun:=Ql ty (gam J0 [(347,g347)]) Tryz.f282
theorem Qcu : Qe Tryz.prog 282 g282:=Qf Qi Qj (Qg (J:=J0) (Qa g347_ok (Qc Qd))) Tryz.func282 (fun args w=>by simp)
def g283 : Fun:=Ql ty (gam J0 [(46,g46)]) Tryz.f283
theorem Qct : Qe Tryz.prog 283 g283:=Qf Qi Qj (Qg (J:=J0) (Qa Kg (Qc Qd))) Tryz.func283 (fun args w=>by simp)
def g285 : Fun:=Ql ty (gam J0 []) Tryz.f285
theorem Qcs : Qe Tryz.prog 285 g285:=Qf Qi Qj (Qg (J:=J0) (Qc Qd)) Tryz.func285 (fun args w=>by simp)
def g286 : Fun:=Ql ty (gam J0 [(50,g50)]) Tryz.f286
theorem Qcr : Qe Tryz.prog 286 g286:=Qf Qi Qj (Qg (J:=J0) (Qa Wp (Qc Qd))) Tryz.func286 (fun args w=>by simp)
def g197 : Fun:=Ql ty (gam J0 [(282,g282),(283,g283),(285,g285),(286,g286)]) Tryz.f197
theorem g197_ok : Qe Tryz.prog 197 g197:=Qf Qi Qj (Qg (J:=J0) (Qa Qcu (Qa Qct (Qa Qcs (Qa Qcr (Qc Qd)))))) Tryz.func197 (fun args w=>by simp)
def g198 : Fun:=Ql ty (gam J0 [(50,g50),(282,g282),(283,g283),(285,g285),(286,g286)]) Tryz.f198
theorem g198_ok : Qe Tryz.prog 198 g198:=Qf Qi Qj (Qg (J:=J0) (Qa Wp (Qa Qcu (Qa Qct (Qa Qcs (Qa Qcr (Qc Qd))))))) Tryz.func198 (fun args w=>by simp)
def g201 : Fun:=Ql ty (gam J0 [(77,g77),(289,g289)]) Tryz.f201
theorem g201_ok : Qe Tryz.prog 201 g201:=Qf Qi Qj (Qg (J:=J0) (Qa NK (Qa Qcq (Qc Qd)))) Tryz.func201 (fun args w=>by simp)
def g125 : Fun:=Ql ty (gam J0 [(195,g195),(196,g196),(197,g197),(198,g198),(201,g201)]) Tryz.f125
theorem g125_ok : Qe Tryz.prog 125 g125:=Qf Qi Qj (Qg (J:=J0) (Qa g195_ok (Qa g196_ok (Qa g197_ok (Qa g198_ok (Qa g201_ok (Qc Qd))))))) Tryz.func125 (fun args w=>by simp)
def g127 : Fun:=Ql ty (gam J0 [(50,g50),(188,Qfx),(190,g190),(191,g191)]) Tryz.f127
theorem g127_ok : Qe Tryz.prog 127 g127:=Qf Qi Qj (Qg (J:=J0) (Qa Wp (Qa Xh (Qa QcN (Qa NW (Qc Qd)))))) Tryz.func127 (fun args w=>by simp)
def g293 : Fun:=Ql ty (gam J0 []) Tryz.f293
theorem g293_ok : Qe Tryz.prog 293 g293:=Qf Qi Qj (Qg (J:=J0) (Qc Qd)) Tryz.func293 (fun args w=>by simp)
def g206 : Fun:=Ql ty (gam J0 [(46,g46),(83,g83),(292,g292),(293,g293)]) Tryz.f206
theorem g206_ok : Qe Tryz.prog 206 g206:=Qf Qi Qj (Qg (J:=J0) (Qa Kg (Qa X1 (Qa Qcp (Qa g293_ok (Qc Qd)))))) Tryz.func206 (fun args w=>by simp)
end Go.Proofs.YtodlaigjjknpkaaGreatDoor
