/- The four bytes of a number are read back. No condition. -/
import Derived.Test.YtlbigopkplckaaaRdK
import Derived.KernelRfl
import Derived.Test.YtlbigopkplckaaaAmL7
namespace Go.Proofs.Ytlbigopkplckaaa
open Go Go.Am
set_option linter.all false
set_option maxRecDepth 100000
noncomputable def s63G (a0 : Str) (h : H) (k : Int → H → Prop) : Prop :=
ixsK (AV.str a0) (AV.int .i64 (Int.ofNat 0)) fun x1 =>
fI (wrapF .i32 x1) fun x2 =>
fI (shlF .i32 x2 24) fun x3 =>
ixsK (AV.str a0) (AV.int .i64 (Int.ofNat 1)) fun x4 =>
fI (wrapF .i32 x4) fun x5 =>
fI (shlF .i32 x5 16) fun x6 =>
fI (lorF .i32 x3 x6) fun x7 =>
ixsK (AV.str a0) (AV.int .i64 (Int.ofNat 2)) fun x8 =>
fI (wrapF .i32 x8) fun x9 =>
fI (shlF .i32 x9 8) fun x10 =>
fI (lorF .i32 x7 x10) fun x11 =>
ixsK (AV.str a0) (AV.int .i64 (Int.ofNat 3)) fun x12 =>
fI (wrapF .i32 x12) fun x13 =>
fI (lorF .i32 x11 x13) fun x14 =>
k x14 h
noncomputable def undrawF (f : Func) : Func := { f with body := match f.body with | some (.seq a (.seq (.region i ops true) b)) => some (.seq a (.seq (.region i ops false) b)) | c => c }
theorem f63_un (G : Gam) : denF ty G Try.f63 = denF ty G (undrawF Try.f63) := by
  refine denF_draw (f := Try.f63) (f' := undrawF Try.f63) (is := List.range 19) rfl rfl rfl rfl rfl rfl ?_ ?_ ?_ ?_
  · kernel_rfl
  · kernel_rfl
  · rfl
  · decide +kernel
theorem f64_un (G : Gam) : denF ty G Try.f64 = denF ty G (undrawF Try.f64) := by
  refine denF_draw (f := Try.f64) (f' := undrawF Try.f64) (is := List.range 19) rfl rfl rfl rfl rfl rfl ?_ ?_ ?_ ?_
  · kernel_rfl
  · kernel_rfl
  · rfl
  · decide +kernel
theorem s63_eq (J : Joins) (a0 : Str) (h : H) (k : AV → H → Prop) : denF ty (gam J []) Try.f63 [(.str a0)] h k = s63G a0 h (fun r0 h => k (.int .i32 r0) h) := by
  rw [f63_un]
  kernel_rfl
theorem s64_eq (J : Joins) (a0 : Str) (h : H) (k : AV → H → Prop) : denF ty (gam J []) Try.f64 [(.str a0)] h k = s63G a0 h (fun r0 h => k (.int .i32 r0) h) := by
  rw [f64_un]
  kernel_rfl
def BackP (l : List UInt8) (n : Int) : Prop := ∀ x : Nat, x < 16777216 → l = be 4 x → n = Int.ofNat x
theorem bI_i32 (c : UInt8) : wrapF .i32 (bI c) = bI c := wrapF_nat (kk := .i32) (m := c.toNat) (by have := c.toNat_lt; show c.toNat < 2147483648; omega)
theorem shl_i32 {c p : Nat} (n : Nat) (hn : n ≤ 32) (hp : 2 ^ n = p) (h : c * p < 2147483648) : shlF .i32 (Int.ofNat c) n = Int.ofNat (c * p) := by
  unfold shlF
  rw [nmin_le (by show n ≤ 32; omega)]
  have e2 : Nat.shiftLeft 1 n = p := by
    show 1 <<< n = _
    rw [Nat.shiftLeft_eq, hp, Nat.one_mul]
  rw [e2]
  exact wrapF_nat (kk := .i32) (m := c * p) (by show c * p < 2147483648; omega)
theorem toU_i32 {a : Nat} (h : a < 2147483648) : toU .i32 (Int.ofNat a) = a :=
  Nat.mod_eq_of_lt (by show a < 4294967296; omega)
theorem or_i32 {a b p : Nat} (i : Nat) (hp : 2 ^ i = p) (hb : b < p) (hs : a * p + b < 2147483648) : lorF .i32 (Int.ofNat (a * p)) (Int.ofNat b) = Int.ofNat (a * p + b) := by
  unfold lorF
  have hp1 : 0 < p := by omega
  rw [toU_i32 (by omega), toU_i32 (by omega)]
  have e : Nat.lor (a * p) b = a * p + b := by
    have := Nat.shiftLeft_add_eq_or_of_lt (i := i) (b := b) (by rw [hp]; exact hb) a
    rw [Nat.shiftLeft_eq, hp] at this
    rw [this]; rfl
  rw [e]
  exact wrapF_nat (kk := .i32) (by show a * p + b < 2147483648; exact hs)
theorem t63 {l : List UInt8} (hl : l.length = 4) {h : H} {K : Int → H → Prop} (hk : ∀ n, BackP l n → K n h) : s63G (Str.of l) h K := by
  unfold s63G
  simp only [fI_eq]
  rw [ixs_of (by omega), ixs_of (by omega), ixs_of (by omega), ixs_of (by omega)]
  refine hk _ fun x hx e => ?_
  subst e
  simp only [bI_i32]
  show lorF .i32 (lorF .i32 (lorF .i32 (shlF .i32 (bI (UInt8.ofNat (x >>> 24))) 24) (shlF .i32 (bI (UInt8.ofNat (x >>> 16))) 16)) (shlF .i32 (bI (UInt8.ofNat (x >>> 8))) 8)) (bI (UInt8.ofNat (x >>> 0))) = _
  rw [bI_ofNat, bI_ofNat, bI_ofNat, bI_ofNat, Nat.shiftRight_eq_div_pow, Nat.shiftRight_eq_div_pow, Nat.shiftRight_eq_div_pow, Nat.shiftRight_eq_div_pow]
  show lorF .i32 (lorF .i32 (lorF .i32 (shlF .i32 (Int.ofNat (x / 16777216 % 256)) 24) (shlF .i32 (Int.ofNat (x / 65536 % 256)) 16)) (shlF .i32 (Int.ofNat (x / 256 % 256)) 8)) (Int.ofNat (x / 1 % 256)) = _
  have e0 : x / 16777216 % 256 = 0 := by omega
  have P24 : 2 ^ 24 = 16777216 := by decide
  have P16 : 2 ^ 16 = 65536 := by decide
  have P8 : 2 ^ 8 = 256 := by decide
  have a0 : shlF .i32 (Int.ofNat (x / 16777216 % 256)) 24 = Int.ofNat 0 := by rw [e0]; exact shl_i32 (c := 0) (p := 16777216) 24 (by decide) P24 (by decide)
  have a1 := shl_i32 (c := x / 65536 % 256) (p := 65536) 16 (by decide) P16 (by omega)
  have a2 := shl_i32 (c := x / 256 % 256) (p := 256) 8 (by decide) P8 (by omega)
  have e1 := or_i32 (a := 0) (b := x / 65536 % 256 * 65536) (p := 16777216) 24 P24 (by omega) (by omega)
  rw [Nat.zero_mul, Nat.zero_add] at e1
  have e2 := or_i32 (a := x / 65536 % 256) (b := x / 256 % 256 * 256) (p := 65536) 16 P16 (by omega) (by omega)
  have e3 := or_i32 (a := x / 65536 % 256 * 256 + x / 256 % 256) (b := x / 1 % 256) (p := 256) 8 P8 (by omega) (by omega)
  have e4 : (x / 65536 % 256 * 256 + x / 256 % 256) * 256 = x / 65536 % 256 * 65536 + x / 256 % 256 * 256 := by omega
  rw [e4] at e3
  rw [a0, a1, a2, e1, e2, e3]
  congr 1; omega
theorem g63_at {l : List UInt8} (hl : l.length = 4) {h : H} {K : AV → H → Prop} (hk : ∀ n, BackP l n → K (.int .i32 n) h) : g63 [.str (Str.of l)] h K := by
  unfold g63
  rw [s63_eq]
  exact t63 hl hk
theorem g64_at {l : List UInt8} (hl : l.length = 4) {h : H} {K : AV → H → Prop} (hk : ∀ n, BackP l n → K (.int .i32 n) h) : g64 [.str (Str.of l)] h K := by
  unfold g64
  rw [s64_eq]
  exact t63 hl hk
end Go.Proofs.Ytlbigopkplckaaa
