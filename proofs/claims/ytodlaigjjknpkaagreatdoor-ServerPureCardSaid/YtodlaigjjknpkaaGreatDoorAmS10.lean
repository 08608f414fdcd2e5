import Derived.Test.YtodlaigjjknpkaaGreatDoorAmS9
noncomputable section
namespace Go.Proofs.YtodlaigjjknpkaaGreatDoor
open Go Go.Am
set_option maxRecDepth 100000
set_option linter.all false
def g295 : Fun:=Ql ty (gam J0 [(71,g71),(296,g296),(340,g340),(351,g351),(352,g352)]) Tryz.f295
theorem g295_ok : Qe Tryz.prog 295 g295:=Qf Qi Qj (Qg (J:=J0) (Qa Kf (Qa NP (Qa NO (Qa Qch (Qa Qcg (Qc Qd))))))) Tryz.func295 (fun args w=>by simp)
def g209 : Fun:=Ql ty (gam J0 [(295,g295),(296,g296)]) Tryz.f209
theorem g209_ok : Qe Tryz.prog 209 g209:=Qf Qi Qj (Qg (J:=J0) (Qa g295_ok (Qa NP (Qc Qd)))) Tryz.func209 (fun args w=>by simp)
def g339 : Fun:=Ql ty (gam J0 [(71,g71),(296,g296),(340,g340),(351,g351),(352,g352)]) Tryz.f339
theorem g339_ok : Qe Tryz.prog 339 g339:=Qf Qi Qj (Qg (J:=J0) (Qa Kf (Qa NP (Qa NO (Qa Qch (Qa Qcg (Qc Qd))))))) Tryz.func339 (fun args w=>by simp)
def g265 : Fun:=Ql ty (gam J0 [(339,g339),(340,g340)]) Tryz.f265
theorem g265_ok : Qe Tryz.prog 265 g265:=Qf Qi Qj (Qg (J:=J0) (Qa g339_ok (Qa NO (Qc Qd)))) Tryz.func265 (fun args w=>by simp)
def Qfx : Fun:=Ql ty (gam J0 [(209,g209),(265,g265)]) Tryz.f188
theorem Xh : Qe Tryz.prog 188 Qfx:=Qf Qi Qj (Qg (J:=J0) (Qa g209_ok (Qa g265_ok (Qc Qd)))) Tryz.func188 (fun args w=>by simp)
def g292 : Fun:=Ql ty (gam J0 [(50,g50),(83,g83),(294,g294)]) Tryz.f292
theorem Qcp : Qe Tryz.prog 292 g292:=Qf Qi Qj (Qg (J:=J0) (Qa Wp (Qa X1 (Qa Qco (Qc Qd))))) Tryz.func292 (fun args w=>by simp)
def g266 : Fun:=Ql ty (gam J0 [(40,g40),(292,g292)]) Tryz.f266
theorem Qcz : Qe Tryz.prog 266 g266:=Qf Qi Qj (Qg (J:=J0) (Qa W9 (Qa Qcp (Qc Qd)))) Tryz.func266 (fun args w=>by simp)
def g268 : Fun:=Ql ty (gam J0 [(50,g50)]) Tryz.f268
theorem g268_ok : Qe Tryz.prog 268 g268:=Qf Qi Qj (Qg (J:=J0) (Qa Wp (Qc Qd))) Tryz.func268 (fun args w=>by simp)
def g189 : Fun:=Ql ty (gam J0 [(50,g50),(116,D8),(266,g266),(268,g268)]) Tryz.f189
theorem g189_ok : Qe Tryz.prog 189 g189:=Qf Qi Qj (Qg (J:=J0) (Qa Wp (Qa VL (Qa Qcz (Qa g268_ok (Qc Qd)))))) Tryz.func189 (fun args w=>by simp)
def g269 : Fun:=Ql ty (gam J0 []) Tryz.f269
theorem Qcy : Qe Tryz.prog 269 g269:=Qf Qi Qj (Qg (J:=J0) (Qc Qd)) Tryz.func269 (fun args w=>by simp)
def g272 : Fun:=Ql ty (gam J0 []) Tryz.f272
theorem g272_ok : Qe Tryz.prog 272 g272:=Qf Qi Qj (Qg (J:=J0) (Qc Qd)) Tryz.func272 (fun args w=>by simp)
def g190 : Fun:=Ql ty (gam J0 [(40,g40),(50,g50),(116,D8),(134,g134),(269,g269),(272,g272)]) Tryz.f190
theorem QcN : Qe Tryz.prog 190 g190:=Qf Qi Qj (Qg (J:=J0) (Qa W9 (Qa Wp (Qa VL (Qa N1 (Qa Qcy (Qa g272_ok (Qc Qd)))))))) Tryz.func190 (fun args w=>by simp)
def g123 : Fun:=Ql ty (gam J0 [(50,g50),(188,Qfx),(189,g189),(190,g190)]) Tryz.f123
theorem g123_ok : Qe Tryz.prog 123 g123:=Qf Qi Qj (Qg (J:=J0) (Qa Wp (Qa Xh (Qa g189_ok (Qa QcN (Qc Qd)))))) Tryz.func123 (fun args w=>by simp)
def g191 : Fun:=Ql ty (gam J0 []) Tryz.f191
theorem NW : Qe Tryz.prog 191 g191:=Qf Qi Qj (Qg (J:=J0) (Qc Qd)) Tryz.func191 (fun args w=>by simp)
def g274 : Fun:=Ql ty (gam J0 [(40,g40)]) Tryz.f274
theorem g274_ok : Qe Tryz.prog 274 g274:=Qf Qi Qj (Qg (J:=J0) (Qa W9 (Qc Qd))) Tryz.func274 (fun args w=>by simp)
def g192 : Fun:=Ql ty (gam J0 [(50,g50),(83,g83),(116,D8),(266,g266),(274,g274)]) Tryz.f192
theorem g192_ok : Qe Tryz.prog 192 g192:=Qf Qi Qj (Qg (J:=J0) (Qa Wp (Qa X1 (Qa VL (Qa Qcz (Qa g274_ok (Qc Qd))))))) Tryz.func192 (fun args w=>by simp)
def g275 : Fun:=Ql ty (gam J0 []) Tryz.f275
theorem g275_ok : Qe Tryz.prog 275 g275:=Qf Qi Qj (Qg (J:=J0) (Qc Qd)) Tryz.func275 (fun args w=>by simp)
def g193 : Fun:=Ql ty (gam J0 [(116,D8),(269,g269),(275,g275)]) Tryz.f193
theorem g193_ok : Qe Tryz.prog 193 g193:=Qf Qi Qj (Qg (J:=J0) (Qa VL (Qa Qcy (Qa g275_ok (Qc Qd))))) Tryz.func193 (fun args w=>by simp)
def g124 : Fun:=Ql ty (gam J0 [(77,g77),(82,g82),(116,D8),(188,Qfx),(191,g191),(192,g192),(193,g193),(194,g194)]) Tryz.f124
theorem g124_ok : Qe Tryz.prog 124 g124:=Qf Qi Qj (Qg (J:=J0) (Qa NK (Qa QaI (Qa VL (Qa Xh (Qa NW (Qa g192_ok (Qa g193_ok (Qa QcM (Qc Qd)))))))))) Tryz.func124 (fun args w=>by simp)
def g180 : Fun:=Ql ty (gam J0 [(244,Qfr),(246,g246)]) Tryz.f180
theorem g180_ok : Qe Tryz.prog 180 g180:=Qf Qi Qj (Qg (J:=J0) (Qa Xd (Qa QcB (Qc Qd)))) Tryz.func180 (fun args w=>by simp)
def g111 : Fun:=Ql ty (gam J0 [(103,g103),(179,g179),(180,g180)]) Tryz.f111
theorem QcZ : Qe Tryz.prog 111 g111:=Qf Qi Qj (Qg (J:=J0) (Qa N5 (Qa QcO (Qa g180_ok (Qc Qd))))) Tryz.func111 (fun args w=>by simp)
end Go.Proofs.YtodlaigjjknpkaaGreatDoor
