/- Numbers: the model's operations, by forms that the kernel reckons fast. -/
import Derived.Test.YtdaibgpceldbdaaGreatDoorAmRel
namespace Go.Am
open Go

def kcode : IntKind → Nat
  | .i8 => 0 | .i16 => 1 | .i32 => 2 | .i64 => 3 | .u8 => 4 | .u16 => 5 | .u32 => 6 | .u64 => 7
noncomputable def keq (a b : IntKind) : Bool := Nat.beq (kcode a) (kcode b)
theorem keq_iff {a b : IntKind} : keq a b = true ↔ a = b := by
  unfold keq; cases a <;> cases b <;> simp [kcode]

/-- numbers from 0 up to here are of the kind -/
def kHi : IntKind → Nat
  | .i8 => 128 | .i16 => 32768 | .i32 => 2147483648 | .i64 => 9223372036854775808 | .u8 => 256 | .u16 => 65536 | .u32 => 4294967296 | .u64 => 18446744073709551616
def kLo : IntKind → Nat
  | .i8 => 128 | .i16 => 32768 | .i32 => 2147483648 | .i64 => 9223372036854775808 | _ => 0
def kMod : IntKind → Nat
  | .i8 => 256 | .i16 => 65536 | .i32 => 4294967296 | .i64 => 18446744073709551616 | .u8 => 256 | .u16 => 65536 | .u32 => 4294967296 | .u64 => 18446744073709551616
theorem kMod_eq (k : IntKind) : kMod k = 2 ^ k.bits := by cases k <;> rfl

noncomputable def wrapF (k : IntKind) (n : Int) : Int :=
  Int.rec (motive := fun _ => Int) (fun m => Bool.rec (k.wrap n) (Int.ofNat m) (Nat.blt m (kHi k))) (fun m => Bool.rec (k.wrap n) (Int.negSucc m) (Nat.blt m (kLo k))) n
theorem kHi_le (k : IntKind) : kHi k ≤ 2 ^ k.bits := by cases k <;> decide
theorem kHi_signed (k : IntKind) (h : k.signed = true) : kHi k = 2 ^ (k.bits - 1) ∧ 2 ^ k.bits = 2 * 2 ^ (k.bits - 1) := by cases k <;> first | decide | cases h
theorem kLo_signed (k : IntKind) (h : 0 < kLo k) : k.signed = true ∧ kLo k = 2 ^ (k.bits - 1) ∧ 2 ^ k.bits = 2 * 2 ^ (k.bits - 1) := by cases k <;> first | decide | cases h
theorem cast_pow (n : Nat) : ((2 ^ n : Nat) : Int) = (2 : Int) ^ n := by simp
theorem wrap_nat (k : IntKind) (m : Nat) (h : m < kHi k) : k.wrap (Int.ofNat m) = Int.ofNat m := by
  have hle := kHi_le k
  have h1 : (Int.ofNat m) % (2 ^ k.bits : Int) = Int.ofNat m := by
    rw [← cast_pow]
    exact Int.emod_eq_of_lt (Int.natCast_nonneg m) (by show (m : Int) < _; omega)
  unfold IntKind.wrap
  simp only [h1]
  split
  · rename_i hc
    simp only [Bool.and_eq_true, decide_eq_true_eq] at hc
    obtain ⟨e, _⟩ := kHi_signed k hc.1
    have h2 := hc.2
    rw [← cast_pow] at h2
    have : (Int.ofNat m : Int) = (m : Int) := rfl
    omega
  · rfl
theorem wrap_neg (k : IntKind) (m : Nat) (h : m < kLo k) : k.wrap (Int.negSucc m) = Int.negSucc m := by
  obtain ⟨hs, e, e2⟩ := kLo_signed k (by omega)
  have hp : 0 < 2 ^ (k.bits - 1) := Nat.pow_pos (by omega)
  have h1 : (Int.negSucc m) % (2 ^ k.bits : Int) = ((2 ^ k.bits : Nat) : Int) - (m + 1) := by
    rw [← cast_pow, Int.negSucc_emod _ (by omega), Int.emod_eq_of_lt (by omega) (by omega)]; omega
  unfold IntKind.wrap
  simp only [h1, hs, Bool.true_and]
  rw [← cast_pow, ← cast_pow]
  rw [if_pos (by simp only [decide_eq_true_eq]; omega)]
  omega
theorem wrapF_eq (k : IntKind) (n : Int) : wrapF k n = k.wrap n := by
  cases n with
  | ofNat m =>
    show (Bool.rec (k.wrap (Int.ofNat m)) (Int.ofNat m) (Nat.blt m (kHi k)) : Int) = _
    rw [Str.brec]; split
    · rename_i h; rw [blt_iff] at h; exact (wrap_nat k m h).symm
    · rfl
  | negSucc m =>
    show (Bool.rec (k.wrap (Int.negSucc m)) (Int.negSucc m) (Nat.blt m (kLo k)) : Int) = _
    rw [Str.brec]; split
    · rename_i h; rw [blt_iff] at h; exact (wrap_neg k m h).symm
    · rfl

noncomputable def ltI (a b : Int) : Bool :=
  Int.rec (motive := fun _ => Bool) (fun m => Int.rec (motive := fun _ => Bool) (fun n => Nat.blt m n) (fun _ => false) b) (fun m => Int.rec (motive := fun _ => Bool) (fun _ => true) (fun n => Nat.blt n m) b) a
theorem ltI_eq (a b : Int) : ltI a b = decide (a < b) := by
  rw [Bool.eq_iff_iff, decide_eq_true_eq]
  cases a <;> cases b
  · show Nat.blt _ _ = true ↔ _; rw [blt_iff]; simp
  · show false = true ↔ _; simp; omega
  · show true = true ↔ _; simp; omega
  · show Nat.blt _ _ = true ↔ _; rw [blt_iff]; omega
noncomputable def eqI (a b : Int) : Bool :=
  Int.rec (motive := fun _ => Bool) (fun m => Int.rec (motive := fun _ => Bool) (fun n => Nat.beq m n) (fun _ => false) b) (fun m => Int.rec (motive := fun _ => Bool) (fun _ => false) (fun n => Nat.beq n m) b) a
theorem eqI_eq (a b : Int) : eqI a b = (a == b) := by
  rw [Bool.eq_iff_iff, beq_iff_eq]
  cases a <;> cases b
  · show Nat.beq _ _ = true ↔ _; rw [Nat.beq_eq]; exact ⟨fun h => congrArg Int.ofNat h, fun h => Int.ofNat.inj h⟩
  · show false = true ↔ _; simp
  · show false = true ↔ _; simp
  · show Nat.beq _ _ = true ↔ _; rw [Nat.beq_eq]; exact ⟨fun h => congrArg Int.negSucc h.symm, fun h => (Int.negSucc.inj h).symm⟩

noncomputable def toU (k : IntKind) (n : Int) : Nat :=
  Int.rec (motive := fun _ => Nat) (fun m => Nat.mod m (kMod k)) (fun m => Nat.sub (Nat.sub (kMod k) 1) (Nat.mod m (kMod k))) n
theorem toU_eq (k : IntKind) (n : Int) : toU k n = (BitVec.ofInt k.bits n).toNat := by
  rw [BitVec.toNat_ofInt]
  cases n with
  | ofNat m =>
    show m % kMod k = _
    rw [kMod_eq]; simp; rfl
  | negSucc m =>
    show (kMod k - 1) - m % kMod k = _
    rw [kMod_eq]
    have hp : 0 < 2 ^ k.bits := Nat.pow_pos (by omega)
    generalize 2 ^ k.bits = q at *
    rw [Int.negSucc_emod _ (by omega)]
    have := Nat.mod_lt m hp
    omega

noncomputable def bitsI (op : BinOp) (k : IntKind) (x y : Int) : Option Int :=
  match op with
  | .and => some (wrapF k (Int.ofNat (Nat.land (toU k x) (toU k y))))
  | .or => some (wrapF k (Int.ofNat (Nat.lor (toU k x) (toU k y))))
  | .xor => some (wrapF k (Int.ofNat (Nat.xor (toU k x) (toU k y))))
  | .andNot => some (wrapF k (Int.ofNat (Nat.land (toU k x) (Nat.sub (Nat.sub (kMod k) 1) (toU k y)))))
  | _ => none

noncomputable def shlI (k : IntKind) (x : Int) (y : Int) : Option Int :=
  Int.rec (motive := fun _ => Option Int) (fun n => some (wrapF k (Int.mul x (Int.ofNat (Nat.shiftLeft 1 (min n k.bits)))))) (fun _ => none) y
noncomputable def shrI (k : IntKind) (x : Int) (y : Int) : Option Int :=
  Int.rec (motive := fun _ => Option Int) (fun n => some (Int.rec (motive := fun _ => Int) (fun m => Int.ofNat (Nat.shiftRight m (min n k.bits))) (fun m => Int.negSucc (Nat.shiftRight m (min n k.bits))) x)) (fun _ => none) y

noncomputable def binI (op : BinOp) (k : IntKind) (x y : Int) : Option AV :=
  match op with
  | .add => some (.int k (wrapF k (Int.add x y)))
  | .sub => some (.int k (wrapF k (Int.sub x y)))
  | .mul => some (.int k (wrapF k (Int.mul x y)))
  | .quo => Bool.rec (some (.int k (wrapF k (Int.tdiv x y)))) none (eqI y 0)
  | .rem => Bool.rec (some (.int k (Int.tmod x y))) none (eqI y 0)
  | .eql => some (.bool (eqI x y))
  | .neq => some (.bool (Bool.not (eqI x y)))
  | .lss => some (.bool (ltI x y))
  | .leq => some (.bool (Bool.not (ltI y x)))
  | .gtr => some (.bool (ltI y x))
  | .geq => some (.bool (Bool.not (ltI x y)))
  | .and | .or | .xor | .andNot => (bitsI op k x y).map (.int k)
  | .shl | .shr => none

theorem bits_ok (P : Program) (w : World) {op : BinOp} {k : IntKind} {x y r : Int} (h : bitsI op k x y = some r) : (Op.intBits op k x y).run P w = .ok (.int k r) w := by
  have hnot : ∀ z : BitVec k.bits, (~~~z).toNat = kMod k - 1 - z.toNat := fun z => by rw [BitVec.toNat_not, kMod_eq]
  cases op <;> simp only [bitsI] at h <;> first | cases h | skip
  · show Result.ok (Value.int k (k.wrap ((BitVec.ofInt k.bits x &&& BitVec.ofInt k.bits y).toNat : Int))) w = _
    rw [wrapF_eq, toU_eq, toU_eq, BitVec.toNat_and]; rfl
  · show Result.ok (Value.int k (k.wrap ((BitVec.ofInt k.bits x ||| BitVec.ofInt k.bits y).toNat : Int))) w = _
    rw [wrapF_eq, toU_eq, toU_eq, BitVec.toNat_or]; rfl
  · show Result.ok (Value.int k (k.wrap ((BitVec.ofInt k.bits x ^^^ BitVec.ofInt k.bits y).toNat : Int))) w = _
    rw [wrapF_eq, toU_eq, toU_eq, BitVec.toNat_xor]; rfl
  · show Result.ok (Value.int k (k.wrap ((BitVec.ofInt k.bits x &&& ~~~BitVec.ofInt k.bits y).toNat : Int))) w = _
    rw [wrapF_eq, toU_eq, toU_eq, BitVec.toNat_and, hnot]; rfl

theorem binI_ok (P : Program) (w : World) (t : TypeId) {op : BinOp} {k : IntKind} {x y : Int} {r : AV} (h : binI op k x y = some r) : ∃ v, (binOp op t (.int k x) (.int k y)).run P w = .ok v w ∧ ∀ μ, r.rel μ v := by
  unfold binI at h
  split at h
  case h_1 => injection h with h; subst h; exact ⟨_, by simp [binOp, Op.intArith]; rfl, fun μ => by simp only [AV.rel, wrapF_eq]; rfl⟩
  case h_2 => injection h with h; subst h; exact ⟨_, by simp [binOp, Op.intArith]; rfl, fun μ => by simp only [AV.rel, wrapF_eq]; rfl⟩
  case h_3 => injection h with h; subst h; exact ⟨_, by simp [binOp, Op.intArith]; rfl, fun μ => by simp only [AV.rel, wrapF_eq]; rfl⟩
  case h_4 =>
    rw [Str.brec, eqI_eq] at h; split at h
    · cases h
    · rename_i h0; simp at h0
      injection h with h; subst h; exact ⟨.int k (k.wrap (x.tdiv y)), by simp [binOp, Op.intDiv, h0], fun μ => by simp [AV.rel, wrapF_eq]⟩
  case h_5 =>
    rw [Str.brec, eqI_eq] at h; split at h
    · cases h
    · rename_i h0; simp at h0
      injection h with h; subst h; exact ⟨.int k (x.tmod y), by simp [binOp, Op.intDiv, h0], fun μ => by simp [AV.rel]⟩
  case h_6 => injection h with h; subst h; exact ⟨_, by simp [binOp, Op.intCmp]; rfl, fun μ => by simp [AV.rel, eqI_eq]⟩
  case h_7 => injection h with h; subst h; exact ⟨_, by simp [binOp, Op.intCmp]; rfl, fun μ => by simp [AV.rel, eqI_eq]; rfl⟩
  case h_8 => injection h with h; subst h; exact ⟨_, by simp [binOp, Op.intCmp]; rfl, fun μ => by simp [AV.rel, ltI_eq]⟩
  case h_9 => injection h with h; subst h; exact ⟨_, by simp [binOp, Op.intCmp]; rfl, fun μ => by simp only [AV.rel, ltI_eq]; rw [← decide_not]; simp⟩
  case h_10 => injection h with h; subst h; exact ⟨_, by simp [binOp, Op.intCmp]; rfl, fun μ => by simp [AV.rel, ltI_eq]⟩
  case h_11 => injection h with h; subst h; exact ⟨_, by simp [binOp, Op.intCmp]; rfl, fun μ => by simp only [AV.rel, ltI_eq]; rw [← decide_not]; simp⟩
  case h_12 | h_13 | h_14 | h_15 =>
    simp only [Option.map_eq_some_iff] at h
    obtain ⟨q, hq, rfl⟩ := h
    exact ⟨_, by simp [binOp]; exact bits_ok P w hq, fun μ => by simp [AV.rel]⟩
  case h_16 => cases h
  case h_17 => cases h

theorem shlI_ok (P : Program) (w : World) (t : TypeId) {k k' : IntKind} {x y r : Int} (h : shlI k x y = some r) : (binOp .shl t (.int k x) (.int k' y)).run P w = .ok (.int k r) w := by
  cases y with
  | ofNat n =>
    have h : some (wrapF k (Int.mul x (Int.ofNat (Nat.shiftLeft 1 (min n k.bits))))) = some r := h
    injection h with h; subst h
    rw [wrapF_eq]
    have : Int.mul x (Int.ofNat (Nat.shiftLeft 1 (min n k.bits))) = x * 2 ^ (min n k.bits) := by
      rw [show Nat.shiftLeft 1 (min n k.bits) = 2 ^ (min n k.bits) from Nat.one_shiftLeft _]
      show x * ((2 ^ (min n k.bits) : Nat) : Int) = _
      simp
    rw [this]
    have h0 : ¬ (Int.ofNat n < 0) := by simp
    have h1 : (Int.ofNat n).toNat = n := rfl
    simp only [binOp, Op.shift, h0, if_false, h1, Sem.run_pure]
  | negSucc n => cases h
theorem shrI_ok (P : Program) (w : World) (t : TypeId) {k k' : IntKind} {x y r : Int} (h : shrI k x y = some r) : (binOp .shr t (.int k x) (.int k' y)).run P w = .ok (.int k r) w := by
  cases y with
  | ofNat n =>
    simp only [shrI] at h
    injection h with h
    have : x.fdiv (2 ^ (min n k.bits)) = r := by
      rw [← h]
      generalize min n k.bits = q
      have hp : (0 : Int) ≤ 2 ^ q := by exact_mod_cast Nat.zero_le _
      rw [Int.fdiv_eq_ediv_of_nonneg _ hp]
      cases x with
      | ofNat m =>
        show _ = Int.ofNat (m >>> q)
        rw [Nat.shiftRight_eq_div_pow]; simp
      | negSucc m =>
        show _ = Int.negSucc (m >>> q)
        rw [Nat.shiftRight_eq_div_pow]
        rw [Int.negSucc_ediv _ (by exact_mod_cast Nat.pow_pos (by omega))]
        simp [Int.negSucc_eq]; rfl
    have h0 : ¬ (Int.ofNat n < 0) := by simp
    have h1 : (Int.ofNat n).toNat = n := rfl
    simp only [binOp, Op.shift, h0, if_false, h1, this, Sem.run_pure]
  | negSucc n => cases h
end Go.Am
