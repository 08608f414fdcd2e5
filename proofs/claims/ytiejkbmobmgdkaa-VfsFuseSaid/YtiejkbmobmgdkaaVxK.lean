/- The round of Append's range over slices.Chunk. No condition. -/
import Derived.Test.YtiejkbmobmgdkaaVxJ
namespace Go.Proofs.Ytiejkbmobmgdkaa
open Go Go.Am
set_option linter.all false
set_option maxRecDepth 100000
theorem body16 (J : Joins) (c27 : AV → H → (Int → H → Prop) → Prop) (c36 : AV → AV → H → (Int → H → Prop) → Prop) (c39 : AV → Str → H → (Int → Int → H → Prop) → Prop) (c41 : AV → Int → H → (AV → H → Prop) → Prop) (c42 : AV → H → (AV → H → Prop) → Prop)
    (e0 e1 e2 e4 e5 e8 e10 e11 e12 e13 e14 e15 e16 e17 e18 e19 e20 e21 e22 e23 e24 e25 e26 e27 e28 e29 e30 e31 e32 e33 e34 e35 e36 v : AV) (n1 n3 n9 : Nat) (h : H) (A C : H → Prop) (B : Nat → H → Prop) :
    denR ty (gamI J [(27, w27 c27), (36, w36 c36), (39, w39 c39), (41, w41 c41), (42, w42 c42)] [] noCode) (rfAt Try.f16 0).2 ⟨fun _ _ h => A h, fun i _ _ h => B i h, fun _ _ h => C h⟩ [e0, e1, e2, .ptr n1 0, e4, e5, .ptr n3 0, .ptr n9 0, e8, v, e10, e11, e12, e13, e14, e15, e16, e17, e18, e19, e20, e21, e22, e23, e24, e25, e26, e27, e28, e29, e30, e31, e32, e33, e34, e35, e36] [] h =
    (ldV (AV.ptr n1 0) h fun v1 =>
ldI .i64 (AV.ptr n9 0) h fun x2 =>
c42 v h fun v4 h3 =>
ck (readsSo (aLoad1 (AV.ptr n9 0) h3) (AV.int .i64 x2)) (
ck (readsSo (aLoad1 (AV.ptr n1 0) h3) v1) (
ck (isOne v4) (c36 v1 (AV.agg [(AV.int .i64 (Int.ofNat 0)), (.str ⟨0, 0⟩), (.str ⟨0, 0⟩), (AV.int .i64 x2), v4]) h3 fun x6 h5 =>
fB (Bool.not (eqI x6 (Int.ofNat 0))) fun b7 =>
br b7 (
stV (AV.ptr n3 0) (AV.int .i64 x6) h5 fun h8 =>
C h8) (
A h5))))) := by
  kernel_rfl
theorem assign16 (J : Joins) (l : List (Nat × Fun)) (e0 e1 e2 e3 e4 e5 e6 e7 e8 e9 e10 e11 e12 e13 e14 e15 e16 e17 e18 e19 e20 e21 e22 e23 e24 e25 e26 e28 e29 e30 e31 e32 e33 e34 e35 e36 v : AV) (h : H) (N : List AV → List Dfr → H → Prop) (X : Nat → List AV → List Dfr → H → Prop) (R : List AV → List Dfr → H → Prop) :
    denR ty (gamI J l [] noCode) (rfAt Try.f16 0).1 ⟨N, X, R⟩ [e0, e1, e2, e3, e4, e5, e6, e7, e8, e9, e10, e11, e12, e13, e14, e15, e16, e17, e18, e19, e20, e21, e22, e23, e24, e25, e26, v, e28, e29, e30, e31, e32, e33, e34, e35, e36] [] h = N [e0, e1, e2, e3, e4, e5, e6, e7, e8, v, e10, e11, e12, e13, e14, e15, e16, e17, e18, e19, e20, e21, e22, e23, e24, e25, e26, v, e28, e29, e30, e31, e32, e33, e34, e35, e36] [] h := by
  kernel_rfl
end Go.Proofs.Ytiejkbmobmgdkaa
