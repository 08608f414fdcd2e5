/- Numbers as digits. No condition. -/
import Derived.Test.YtcohflkjinpcpaaGreatDoorWaK
import Derived.Test.YtcohflkjinpcpaaGreatDoorAmL7
namespace Go.Proofs.YtcohflkjinpcpaaGreatDoor
open Go Go.Am
set_option linter.all false
set_option maxRecDepth 100000
def dg (n : Nat) : UInt8 := UInt8.ofNat (48 + n % 10)
/-- the last k digits of a number -/
def digS : Nat → Nat → List UInt8
  | 0, _ => []
  | k + 1, n => digS k (n / 10) ++ [dg n]
theorem digS_len : ∀ (k n : Nat), (digS k n).length = k
  | 0, _ => rfl
  | k + 1, n => by
    show (digS k (n / 10) ++ [dg n]).length = _
    rw [List.length_append, digS_len k]; rfl
theorem digS_pad : ∀ (k m n : Nat), n < 10 ^ k → digS (k + m) n = List.replicate m 48 ++ digS k n
  | 0, 0, n, h => rfl
  | 0, m + 1, n, h => by
    have h : n < 1 := h
    obtain rfl : n = 0 := by omega
    have ih := digS_pad 0 m 0 (by decide)
    rw [Nat.zero_add] at ih ⊢
    show digS m (0 / 10) ++ [dg 0] = _
    rw [show (0 : Nat) / 10 = 0 from rfl, ih, List.replicate_succ']; simp [digS]; rfl
  | k + 1, m, n, h => by
    have ih := digS_pad k m (n / 10) (by rw [Nat.pow_succ] at h; omega)
    rw [show k + 1 + m = (k + m) + 1 from by omega]
    show digS (k + m) (n / 10) ++ [dg n] = List.replicate m 48 ++ (digS k (n / 10) ++ [dg n])
    rw [ih, List.append_assoc]
section
variable {KS : Str → H → Prop}
theorem ten_sub : ∀ d : Nat, d < 10 → Str.sub ⟨10, 227581098929683594426425⟩ d (d + 1) = Str.of [UInt8.ofNat (48 + d)] := by decide +kernel
theorem tmod_nat (a b : Nat) : Int.tmod (Int.ofNat a) (Int.ofNat b) = Int.ofNat (a % b) := rfl
theorem tdiv_nat (a b : Nat) : Int.tdiv (Int.ofNat a) (Int.ofNat b) = Int.ofNat (a / b) := rfl
theorem add_nat (a b : Nat) : Int.add (Int.ofNat a) (Int.ofNat b) = Int.ofNat (a + b) := rfl
theorem mul_nat (a b : Nat) : Int.mul (Int.ofNat a) (Int.ofNat b) = Int.ofNat (a * b) := rfl
theorem w64i (m : Nat) (h : m < 9223372036854775808) : wrapF .i64 (Int.ofNat m) = Int.ofNat m := wrapF_nat (kk := .i64) h
theorem w64u (m : Nat) (h : m < 18446744073709551616) : wrapF .u64 (Int.ofNat m) = Int.ofNat m := wrapF_nat (kk := .u64) h
theorem w32u (m : Nat) (h : m < 4294967296) : wrapF .u32 (Int.ofNat m) = Int.ofNat m := wrapF_nat (kk := .u32) h
theorem w8u (m : Nat) (h : m < 256) : wrapF .u8 (Int.ofNat m) = Int.ofNat m := wrapF_nat (kk := .u8) h
theorem sub_i (a b : Nat) (h : b ≤ a) : Int.sub (Int.ofNat a) (Int.ofNat b) = Int.ofNat (a - b) := sub_nat h
theorem subK_at {s : Str} {l u : Nat} {k1 k2 : IntKind} (hu : u ≤ s.len) (hl : l ≤ u) (k : Str → Prop) : subK (.str s) (some (.int k1 (Int.ofNat l))) (some (.int k2 (Int.ofNat u))) k = k (s.sub l u) := by
  unfold subK
  rw [asS_str, bnd_some, bnd_some, (ble_iff _ _).2 hu, (ble_iff _ _).2 hl, ck_t, ck_t, fS_eq]
theorem t38 {n : Nat} {h : H} (hn : n < 1000000000000) (hk : KS (Str.of (digS 6 n)) h) : s38G J0 (Int.ofNat n) h KS := by
  unfold s38G
  refine lp_for 6 (fun i x h' => ∃ m s, x = (.int .i64 (Int.ofNat m), .str (Str.of s), .int .i64 (Int.ofNat i), ()) ∧ h' = h ∧ digS (6 - i) m ++ s = digS 6 n ∧ s.length = i ∧ m < 1000000000000) (by decide) ?_ ?_ ⟨n, [], rfl, rfl, by simp, rfl, hn⟩
  · rintro i x h' self hi ⟨m, s, rfl, rfl, h1, h2, h3⟩ hs
    dsimp only
    rw [asI_int, fB_eq, lt_ltI hi, br_t, asI_int]
    refine ck_intro rfl ?_
    rw [fI_eq, asI_int]
    refine ck_intro rfl ?_
    rw [fI_eq, fI_eq, tmod_nat, add_nat, w64i _ (by omega), subK_at (by show m % 10 + 1 ≤ 10; omega) (Nat.le_succ _), ten_sub _ (by omega), asS_str]
    refine ck_intro (by rw [of_len, of_len, ble_iff]; show 1 + s.length ≤ _; omega) ?_
    rw [fS_eq, Str.cat_of, asI_int]
    refine ck_intro rfl ?_
    rw [fI_eq, tdiv_nat, w64i _ (by omega), asI_int, fI_eq, inc_i i (by omega)]
    refine hs _ _ ⟨m / 10, _, rfl, rfl, ?_, by simp; omega, by omega⟩
    rw [← h1]
    obtain ⟨j, hj⟩ : ∃ j, 6 - i = j + 1 := ⟨6 - i - 1, by omega⟩
    rw [hj, show 6 - (i + 1) = j from by omega]
    show _ = (digS j (m / 10) ++ [dg m]) ++ s
    rw [List.append_assoc]; rfl
  · rintro x h' self ⟨m, s, rfl, rfl, h1, h2, h3⟩
    dsimp only
    rw [asI_int, fB_eq, ge_ltI (Nat.le_refl _), br_f]
    show KS (Str.of s) h'
    rw [← h1] at hk
    exact hk
theorem one_sub : ∀ d : Nat, d < 10 → Str.sub ⟨36, 93621433862240650313326231306435056417042768930449266319129758623240466503934737414522⟩ d (d + 1) = Str.of (digS 1 d) := by decide +kernel
theorem two_sub : ∀ d : Nat, d < 100 → Str.sub ⟨200, 8369396053099643259884660439900312228746471110943504458504829912206407100469475510520505676855750014530596077689858408204562721349408824591789441711103775826291439126061900675989976254244761425382494394669896706626295868329681710377411642562040512013377776180902291979747008038411282346274188424097310996521951660972735479027990947060043115083917949168200323041593656569302669535377774123378085539195783572932112166539323561441937920580889744256865042652178519653545620815178381625⟩ (d * 2) (d * 2 + 2) = Str.of (digS 2 d) := by decide +kernel
/-- how many digits a number has -/
def dLen (n : Nat) : Nat := if n < 10 then 1 else if n < 100 then 2 else if n < 1000 then 3 else if n < 10000 then 4 else if n < 100000 then 5 else 6
theorem t87 {n : Nat} {h : H} (hn : n < 100) (hk : KS (Str.of (digS (dLen n) n)) h) : s87G J0 (Int.ofNat n) h KS := by
  unfold s87G
  rw [fB_eq, ltI_nat]
  by_cases h1 : n < 10
  · rw [decide_eq_true h1, br_t, fI_eq, inc_i n (by omega), subK_at (by show n + 1 ≤ 36; omega) (Nat.le_succ _), one_sub n h1]
    unfold dLen at hk; rw [if_pos h1] at hk
    exact hk
  · rw [decide_eq_false h1, br_f]
    simp only [fI_eq, mul_nat]
    rw [w64i _ (by omega), add_nat, w64i _ (by omega), subK_at (by show n * 2 + 2 ≤ 200; omega) (by omega), two_sub n hn]
    unfold dLen at hk; rw [if_neg h1, if_pos hn] at hk
    exact hk
def GP (h : H) : Prop := ∃ t, h.get 0 = .cells false t [.int .u64 1, .int .u64 10, .int .u64 100, .int .u64 1000, .int .u64 10000, .int .u64 100000, .int .u64 1000000, .int .u64 10000000, .int .u64 100000000, .int .u64 1000000000, .int .u64 10000000000, .int .u64 100000000000, .int .u64 1000000000000, .int .u64 10000000000000, .int .u64 100000000000000, .int .u64 1000000000000000, .int .u64 10000000000000000, .int .u64 100000000000000000, .int .u64 1000000000000000000, .int .u64 10000000000000000000] ∧ 0 < h.base
theorem GP.low {h h' : H} {n : Nat} (g : GP h) (l : Low n h h') (hn : 0 < n) : GP h' := by
  obtain ⟨t, g1, g2⟩ := g
  exact ⟨t, (l.get 0 hn).trans g1, by rw [l.base]; exact g2⟩
theorem gp_read {h : H} (g : GP h) {i : Nat} (hi : i < 20) {x : Int} (e : lgetO [AV.int .u64 1, .int .u64 10, .int .u64 100, .int .u64 1000, .int .u64 10000, .int .u64 100000, .int .u64 1000000, .int .u64 10000000, .int .u64 100000000, .int .u64 1000000000, .int .u64 10000000000, .int .u64 100000000000, .int .u64 1000000000000, .int .u64 10000000000000, .int .u64 100000000000000, .int .u64 1000000000000000, .int .u64 10000000000000000, .int .u64 100000000000000000, .int .u64 1000000000000000000, .int .u64 10000000000000000000] i = some (.int .u64 x)) (k : Int → Prop) :
    (ixaK 20 1 (.glob 0 0) (.int .i64 (Int.ofNat i)) fun p => ldI .u64 p h k) = k x := by
  obtain ⟨t, g1, g2⟩ := g
  show ck (Nat.blt i 20) (fN (Nat.add 0 (Nat.mul i 1)) fun o => ldI .u64 (.glob 0 o) h k) = _
  rw [(blt_iff _ _).2 hi, ck_t, fN_eq]
  have e0 : Nat.add 0 (Nat.mul i 1) = i := by show 0 + i * 1 = i; omega
  rw [e0]
  show ck (Nat.blt 0 h.base) (asRow' (h.get 0) (fun m _ cs => ck (Bool.not m) (op' (lgetO cs i) fun v => asI .u64 v k)) fun _ _ _ _ => False) = _
  rw [(blt_iff _ _).2 g2, g1, ck_t, asRow_cells]
  show op' (lgetO _ i) _ = _
  rw [e]
  show asI .u64 _ k = _
  rw [asI_int]
noncomputable def lenT (y : Nat) : Nat := Str.get ⟨256, 496986003408712215933005303621146343841837811690876167382323004466384420695090407243345123874780946046625255262057845613767806773758184921447759720770971536008171983842311960805720366577116933250839345203839274948261284255908394484732272583221484877694546905335834403051067785895034095251181560891789708940188598129052595634438001880866652824740680664595948164050600812232986714152902334120417949232733424961741260388658846598210939813666227264727603044226856020347194099943897342244906131705541414413428559898943151040826816076322978570758226444464494629814583418847495712557856038296917933182380796641777551368⟩ y
theorem lenT_is : ∀ y : Nat, y < 256 → 1 ≤ y → 1 ≤ lenT y ∧ lenT y ≤ 8 ∧ 2 ^ (lenT y - 1) ≤ y ∧ y < 2 ^ lenT y := by decide +kernel
theorem ixs_at {s : Str} {i : Nat} {kk : IntKind} (hi : i < s.len) (k : Int → Prop) : ixsK (.str s) (.int kk (Int.ofNat i)) k = k (Int.ofNat (s.get i)) := by
  unfold ixsK
  rw [asS_str]
  show ck (Nat.blt i s.len) (fN (s.get i) fun c => k (Int.ofNat c)) = _
  rw [(blt_iff _ _).2 hi, ck_t, fN_eq]
theorem shr_nat (m c : Nat) : shrF (Int.ofNat m) c = Int.ofNat (m / 2 ^ c) := by
  unfold shrF
  show Int.ofNat (m >>> c) = _
  rw [Nat.shiftRight_eq_div_pow]
section
variable {KI : Int → H → Prop}
theorem t99 {x : Nat} {h : H} (h1 : 100 ≤ x) (h2 : x < 1000000) (hk : ∀ L : Nat, 7 ≤ L → L ≤ 20 → 2 ^ (L - 1) ≤ x → x < 2 ^ L → KI (Int.ofNat L) h) : s99G J0 (Int.ofNat x) h KI := by
  unfold s99G
  have e1 : nmin 16 (IntKind.bits .u64) = 16 := rfl
  have e2 : nmin 8 (IntKind.bits .u64) = 8 := rfl
  have fin : ∀ (y a : Nat) (A : Int), A = Int.ofNat a → y < 256 → 1 ≤ y → (a = 0 ∨ a = 8 ∨ a = 16) → x / 2 ^ a = y →
      ixsK (AV.str ⟨256, 496986003408712215933005303621146343841837811690876167382323004466384420695090407243345123874780946046625255262057845613767806773758184921447759720770971536008171983842311960805720366577116933250839345203839274948261284255908394484732272583221484877694546905335834403051067785895034095251181560891789708940188598129052595634438001880866652824740680664595948164050600812232986714152902334120417949232733424961741260388658846598210939813666227264727603044226856020347194099943897342244906131705541414413428559898943151040826816076322978570758226444464494629814583418847495712557856038296917933182380796641777551368⟩) (AV.int .u8 (wrapF .u8 (Int.ofNat y))) fun x15 => leaveK (gam J0 []) [] h fun h19 => KI (wrapF .i64 (Int.add A (wrapF .i64 x15))) h19 := fun y a A hA hy hy1 ha hxy => by
    obtain ⟨q1, q2, q3, q4⟩ := lenT_is y hy hy1
    rw [w8u _ hy, ixs_at (by show y < 256; exact hy), hA]
    show KI (wrapF .i64 (Int.add (Int.ofNat a) (wrapF .i64 (Int.ofNat (lenT y))))) h
    generalize lenT y = L at q1 q2 q3 q4 ⊢
    rw [w64i _ (by omega), add_nat, w64i _ (by omega)]
    have key : 2 ^ (a + L - 1) ≤ x ∧ x < 2 ^ (a + L) := by
      have p1 : 2 ^ (a + L - 1) = 2 ^ (L - 1) * 2 ^ a := by rw [← Nat.pow_add]; congr 1; omega
      have p2 : 2 ^ (a + L) = 2 ^ L * 2 ^ a := by rw [← Nat.pow_add]; congr 1; omega
      have hp : 0 < 2 ^ a := Nat.pow_pos (by decide)
      rw [p1, p2]
      constructor
      · rw [← hxy] at q3; exact (Nat.le_div_iff_mul_le hp).1 q3
      · rw [← hxy] at q4; exact (Nat.div_lt_iff_lt_mul hp).1 q4
    refine hk _ ?_ ?_ key.1 key.2
    · rcases Nat.lt_or_ge (a + L) 7 with h | h
      · have : 2 ^ (a + L) ≤ 2 ^ 6 := Nat.pow_le_pow_right (by decide) (by omega)
        have : (2 : Nat) ^ 6 = 64 := rfl
        omega
      · exact h
    · rcases Nat.lt_or_ge 20 (a + L) with h | h
      · have : 2 ^ 20 ≤ 2 ^ (a + L - 1) := Nat.pow_le_pow_right (by decide) (by omega)
        have : (2 : Nat) ^ 20 = 1048576 := rfl
        omega
      · exact h
  have z1 : ltI (Int.ofNat x) (Int.ofNat 4294967296) = true := lt_ltI (by omega)
  simp only [↓jd_is, ↓fB_eq, z1, ↓Bool.not_true, ↓br_f, ↓asI_int]
  by_cases h3 : x < 65536
  · have z2 : ltI (Int.ofNat x) (Int.ofNat 65536) = true := lt_ltI h3
    simp only [z2, ↓Bool.not_true, ↓br_f, ↓asI_int, ↓fB_eq]
    by_cases h4 : x < 256
    · have z3 : ltI (Int.ofNat x) (Int.ofNat 256) = true := lt_ltI h4
      simp only [z3, ↓Bool.not_true, ↓br_f, ↓asI_int, ↓fB_eq, ↓fI_eq]
      exact fin x 0 _ rfl h4 (by omega) (.inl rfl) (by simp)
    · have z3 : ltI (Int.ofNat x) (Int.ofNat 256) = false := ge_ltI (by omega)
      simp only [z3, ↓Bool.not_false, ↓br_t, ↓asI_int, ↓fB_eq, ↓fI_eq, e2, shr_nat]
      exact fin (x / 2 ^ 8) 8 _ rfl (by omega) (by omega) (.inr (.inl rfl)) rfl
  · have z2 : ltI (Int.ofNat x) (Int.ofNat 65536) = false := ge_ltI (by omega)
    have z3 : ltI (Int.ofNat (x / 2 ^ 16)) (Int.ofNat 256) = true := lt_ltI (by omega)
    simp only [z2, ↓Bool.not_false, ↓br_t, ↓asI_int, ↓fB_eq, ↓fI_eq, e1, shr_nat, z3, ↓Bool.not_true, ↓br_f]
    exact fin (x / 2 ^ 16) 16 _ rfl (by omega) (by omega) (.inr (.inr rfl)) rfl
theorem t88 {x : Nat} {h : H} (g : GP h) (h1 : 100 ≤ x) (h2 : x < 1000000) (hk : KI (Int.ofNat (dLen x)) h) : s88G J0 (s98G J0) (s99G J0) (s100G J0) (Int.ofNat x) h KI := by
  unfold s88G
  refine t99 h1 h2 fun L l1 l2 l3 l4 => ?_
  have fin : ∀ (i p : Nat), i < 20 → lgetO [AV.int .u64 1, .int .u64 10, .int .u64 100, .int .u64 1000, .int .u64 10000, .int .u64 100000, .int .u64 1000000, .int .u64 10000000, .int .u64 100000000, .int .u64 1000000000, .int .u64 10000000000, .int .u64 100000000000, .int .u64 1000000000000, .int .u64 10000000000000, .int .u64 100000000000000, .int .u64 1000000000000000, .int .u64 10000000000000000, .int .u64 100000000000000000, .int .u64 1000000000000000000, .int .u64 10000000000000000000] i = some (.int .u64 (Int.ofNat p)) → (x < p → dLen x = i) → (p ≤ x → dLen x = i + 1) →
      (ixaK 20 1 (AV.glob 0 0) (AV.int .i64 (Int.ofNat i)) fun p5 => ldI .u64 p5 h fun x6 => fB (Bool.not (ltI (Int.ofNat x) x6)) fun b7 => s100G J0 b7 h fun x9 h8 => fI (wrapF .i64 (Int.add (Int.ofNat i) x9)) fun x10 => KI x10 h8) := fun i p hi e q1 q2 => by
    rw [gp_read g hi e, fB_eq, ltI_nat]
    unfold s100G
    by_cases hp : x < p
    · rw [decide_eq_true hp, Bool.not_true, br_f]; dsimp only; rw [fI_eq, add_nat, w64i _ (by omega), Nat.add_zero, ← q1 hp]; exact hk
    · rw [decide_eq_false hp, Bool.not_false, br_t]; dsimp only; rw [fI_eq, add_nat, w64i _ (by omega), ← q2 (by omega)]; exact hk
  unfold s98G
  rw [fI_eq, mul_nat, w64i _ (by omega), fI_eq, shr_nat]
  have hL : L = 7 ∨ L = 8 ∨ L = 9 ∨ L = 10 ∨ L = 11 ∨ L = 12 ∨ L = 13 ∨ L = 14 ∨ L = 15 ∨ L = 16 ∨ L = 17 ∨ L = 18 ∨ L = 19 ∨ L = 20 := by omega
  unfold dLen at fin
  rcases hL with rfl | rfl | rfl | rfl | rfl | rfl | rfl | rfl | rfl | rfl | rfl | rfl | rfl | rfl
  · exact fin 2 100 (by decide) rfl (fun h => by omega) (fun h => by rw [if_neg (by omega), if_neg (by omega), if_pos (by omega)])
  · exact fin 2 100 (by decide) rfl (fun h => by omega) (fun h => by rw [if_neg (by omega), if_neg (by omega), if_pos (by omega)])
  · exact fin 2 100 (by decide) rfl (fun h => by omega) (fun h => by rw [if_neg (by omega), if_neg (by omega), if_pos (by omega)])
  · exact fin 3 1000 (by decide) rfl (fun h => by rw [if_neg (by omega), if_neg (by omega), if_pos (by omega)]) (fun h => by rw [if_neg (by omega), if_neg (by omega), if_neg (by omega), if_pos (by omega)])
  · exact fin 3 1000 (by decide) rfl (fun h => by omega) (fun h => by rw [if_neg (by omega), if_neg (by omega), if_neg (by omega), if_pos (by omega)])
  · exact fin 3 1000 (by decide) rfl (fun h => by omega) (fun h => by rw [if_neg (by omega), if_neg (by omega), if_neg (by omega), if_pos (by omega)])
  · exact fin 3 1000 (by decide) rfl (fun h => by omega) (fun h => by rw [if_neg (by omega), if_neg (by omega), if_neg (by omega), if_pos (by omega)])
  · exact fin 4 10000 (by decide) rfl (fun h => by rw [if_neg (by omega), if_neg (by omega), if_neg (by omega), if_pos (by omega)]) (fun h => by rw [if_neg (by omega), if_neg (by omega), if_neg (by omega), if_neg (by omega), if_pos (by omega)])
  · exact fin 4 10000 (by decide) rfl (fun h => by omega) (fun h => by rw [if_neg (by omega), if_neg (by omega), if_neg (by omega), if_neg (by omega), if_pos (by omega)])
  · exact fin 4 10000 (by decide) rfl (fun h => by omega) (fun h => by rw [if_neg (by omega), if_neg (by omega), if_neg (by omega), if_neg (by omega), if_pos (by omega)])
  · exact fin 5 100000 (by decide) rfl (fun h => by rw [if_neg (by omega), if_neg (by omega), if_neg (by omega), if_neg (by omega), if_pos (by omega)]) (fun h => by rw [if_neg (by omega), if_neg (by omega), if_neg (by omega), if_neg (by omega), if_neg (by omega)])
  · exact fin 5 100000 (by decide) rfl (fun h => by omega) (fun h => by rw [if_neg (by omega), if_neg (by omega), if_neg (by omega), if_neg (by omega), if_neg (by omega)])
  · exact fin 5 100000 (by decide) rfl (fun h => by omega) (fun h => by rw [if_neg (by omega), if_neg (by omega), if_neg (by omega), if_neg (by omega), if_neg (by omega)])
  · exact fin 6 1000000 (by decide) rfl (fun h => by rw [if_neg (by omega), if_neg (by omega), if_neg (by omega), if_neg (by omega), if_neg (by omega)]) (fun h => by omega)
end
end
end Go.Proofs.YtcohflkjinpcpaaGreatDoor

/- strings.Repeat of noughts, by the kernel. No condition. -/
namespace Go.Proofs.YtcohflkjinpcpaaGreatDoor
open Go Go.Am
set_option linter.all false
set_option maxRecDepth 100000
def zeroS : Nat → Str
  | 0 => ⟨0, 0⟩
  | 1 => ⟨1, 48⟩
  | 2 => ⟨2, 12336⟩
  | 3 => ⟨3, 3158064⟩
  | 4 => ⟨4, 808464432⟩
  | _ => ⟨5, 206966894640⟩
theorem zero_is : ∀ m : Nat, m < 6 → zeroS m = Str.of (List.replicate m 48) := by decide +kernel
theorem rep0 (K : AV → Prop) : K (.str (zeroS 0)) = g37 [.str ⟨1, 48⟩, .int .i64 (Int.ofNat 0)] H0 fun r _ => K r := by kernel_rfl
theorem rep1 (K : AV → Prop) : K (.str (zeroS 1)) = g37 [.str ⟨1, 48⟩, .int .i64 (Int.ofNat 1)] H0 fun r _ => K r := by kernel_rfl
theorem rep2 (K : AV → Prop) : K (.str (zeroS 2)) = g37 [.str ⟨1, 48⟩, .int .i64 (Int.ofNat 2)] H0 fun r _ => K r := by kernel_rfl
theorem rep3 (K : AV → Prop) : K (.str (zeroS 3)) = g37 [.str ⟨1, 48⟩, .int .i64 (Int.ofNat 3)] H0 fun r _ => K r := by kernel_rfl
theorem rep4 (K : AV → Prop) : K (.str (zeroS 4)) = g37 [.str ⟨1, 48⟩, .int .i64 (Int.ofNat 4)] H0 fun r _ => K r := by kernel_rfl
theorem rep5 (K : AV → Prop) : K (.str (zeroS 5)) = g37 [.str ⟨1, 48⟩, .int .i64 (Int.ofNat 5)] H0 fun r _ => K r := by kernel_rfl
end Go.Proofs.YtcohflkjinpcpaaGreatDoor

/- Numbers as digits: the greater ones; names. No condition. -/
namespace Go.Proofs.YtcohflkjinpcpaaGreatDoor
open Go Go.Am
set_option linter.all false
set_option maxRecDepth 100000
theorem two_at : ∀ y : Nat, y < 100 → Str.get ⟨200, 8369396053099643259884660439900312228746471110943504458504829912206407100469475510520505676855750014530596077689858408204562721349408824591789441711103775826291439126061900675989976254244761425382494394669896706626295868329681710377411642562040512013377776180902291979747008038411282346274188424097310996521951660972735479027990947060043115083917949168200323041593656569302669535377774123378085539195783572932112166539323561441937920580889744256865042652178519653545620815178381625⟩ (y * 2 + 1) = (dg y).toNat ∧ Str.get ⟨200, 8369396053099643259884660439900312228746471110943504458504829912206407100469475510520505676855750014530596077689858408204562721349408824591789441711103775826291439126061900675989976254244761425382494394669896706626295868329681710377411642562040512013377776180902291979747008038411282346274188424097310996521951660972735479027990947060043115083917949168200323041593656569302669535377774123378085539195783572932112166539323561441937920580889744256865042652178519653545620815178381625⟩ (y * 2) = (dg (y / 10)).toNat := by decide +kernel
theorem asNat_dg (c : UInt8) (k : Nat → Prop) : asNat (.int .u8 (Int.ofNat c.toNat)) k = k c.toNat := rfl
theorem stV_by {h : H} {i o t f : Nat} {g : Bool} {l : List UInt8} {c : UInt8} (e : h.get i = .bytes t f g (Str.of l)) (ho : o < l.length) (hf : f ≤ o) (hi : i < h.next) (hb : h.base ≤ i) (k : H → Prop) :
    stV (.ptr i o) (.int .u8 (Int.ofNat c.toNat)) h k = k (putted h i (.bytes t f g (Str.of (l.set o c)))) := by
  show asRow' (h.get i) _ _ = _
  rw [e]
  show asNat (.int .u8 (Int.ofNat c.toNat)) (fun d => ck (Nat.blt o (Str.of l).len) (ck (Nat.ble f o) (ck (Nat.blt d 256) (fS ((Str.of l).set o d) fun s' => asI .u8 (.int .u8 (Int.ofNat c.toNat)) fun _ => putK i (.bytes t f g s') h k)))) = _
  rw [asNat_dg, of_len, (blt_iff _ _).2 ho, (ble_iff _ _).2 hf, (blt_iff _ _).2 c.toNat_lt, ck_t, ck_t, ck_t, fS_eq, asI_int, Str.set_of _ _ _ ho, putK_is _ hi hb]
theorem dig_hi (y : Nat) (hy : y < 100) (kk : IntKind) (k : Int → Prop) : ixsK (.str ⟨200, 8369396053099643259884660439900312228746471110943504458504829912206407100469475510520505676855750014530596077689858408204562721349408824591789441711103775826291439126061900675989976254244761425382494394669896706626295868329681710377411642562040512013377776180902291979747008038411282346274188424097310996521951660972735479027990947060043115083917949168200323041593656569302669535377774123378085539195783572932112166539323561441937920580889744256865042652178519653545620815178381625⟩) (.int kk (Int.ofNat (y * 2))) k = k (Int.ofNat (dg (y / 10)).toNat) := by
  rw [ixs_at (by show y * 2 < 200; omega), (two_at y hy).2]
theorem dig_lo (y : Nat) (hy : y < 100) (kk : IntKind) (k : Int → Prop) : ixsK (.str ⟨200, 8369396053099643259884660439900312228746471110943504458504829912206407100469475510520505676855750014530596077689858408204562721349408824591789441711103775826291439126061900675989976254244761425382494394669896706626295868329681710377411642562040512013377776180902291979747008038411282346274188424097310996521951660972735479027990947060043115083917949168200323041593656569302669535377774123378085539195783572932112166539323561441937920580889744256865042652178519653545620815178381625⟩) (.int kk (Int.ofNat (y * 2 + 1))) k = k (Int.ofNat (dg y).toNat) := by
  rw [ixs_at (by show y * 2 + 1 < 200; omega), (two_at y hy).1]
theorem put_put (h : H) (i : Nat) (b c : Blk) : putted (putted h i b) i c = putted h i c := by
  show (⟨Tr.set (Tr.set h.mem i b) i c, h.next, h.base⟩ : H) = ⟨Tr.set h.mem i c, h.next, h.base⟩
  rw [set_set]
/-- a row of bytes in the making -/
noncomputable def BT (id : Nat) (h : H) (l : List UInt8) : H := putted h id (.bytes 135 0 true (Str.of l))
theorem bt_set {id : Nat} {h : H} {l : List UInt8} {o : Nat} {c : UInt8} (hid : id < h.next) (hb : h.base ≤ id) (hl : l.length = 24) (ho : o < 24) (k : H → Prop) :
    stV (.ptr id o) (.int .u8 (Int.ofNat c.toNat)) (BT id h l) k = k (BT id h (l.set o c)) := by
  unfold BT
  have e : (putted h id (.bytes 135 0 true (Str.of l))).get id = .bytes 135 0 true (Str.of l) := by rw [putted_get _ _ _ hid, if_pos rfl]
  rw [stV_by e (by rw [hl]; exact ho) (Nat.zero_le _) hid hb, put_put]
theorem ix_at {id L i : Nat} (hi : i < L) (kk : IntKind) (k : AV → Prop) : ixK 1 (.slice id 1 L 23 1 true) (.int kk (Int.ofNat i)) k = k (.ptr id (1 + i)) := by
  show ck (Nat.blt i L) (fN (Nat.add 1 (Nat.mul i 1)) fun o => k (.ptr id o)) = _
  rw [(blt_iff _ _).2 hi, ck_t, fN_eq, show Nat.mul i 1 = i from Nat.mul_one i]; rfl
def z24 : List UInt8 := [0, 0, 0, 0, 0, 0, 0, 0, 0, 0, 0, 0, 0, 0, 0, 0, 0, 0, 0, 0, 0, 0, 0, 0]
theorem dg_48 {y : Nat} (h : y < 10) : Int.ofNat (48 + y) = Int.ofNat (dg y).toNat := by
  unfold dg
  rw [toNat_ofNat (by omega), Nat.mod_eq_of_lt h]
theorem dge {a b : Nat} (h : a % 10 = b % 10) : dg a = dg b := by unfold dg; rw [h]
theorem w8dg (y : Nat) (h : y < 10) : wrapF .u8 (Int.ofNat (48 + y)) = Int.ofNat (dg y).toNat := by rw [w8u _ (by omega), dg_48 h]
section
variable {KH : H → Prop}
theorem t89 {x id : Nat} {h : H} (hx1 : 100 ≤ x) (hx2 : x < 1000000) (hid : id < h.next) (hb : h.base ≤ id) (hk : ∀ l, l.length = 24 → (l.take (1 + dLen x)).drop 1 = digS (dLen x) x → KH (BT id h l)) :
    s89G J0 (.slice id 1 (dLen x) 23 1 true) (Int.ofNat x) (BT id h z24) KH := by
  unfold s89G
  show J0.lp _ _ _ _
  refine lp_for 0 (fun _ v h' => v = (.slice id 1 (dLen x) 23 1 true, .int .u64 (Int.ofNat x), .int .i64 (Int.ofNat (dLen x)), ()) ∧ h' = BT id h z24) (by decide) (fun i _ _ _ hi => absurd hi (Nat.not_lt_zero _)) ?_ ⟨rfl, rfl⟩
  rintro _ _ self ⟨rfl, rfl⟩
  have hL : dLen x = 3 ∧ x < 1000 ∨ dLen x = 4 ∧ 1000 ≤ x ∧ x < 10000 ∨ dLen x = 5 ∧ 10000 ≤ x ∧ x < 100000 ∨ dLen x = 6 ∧ 100000 ≤ x := by
    unfold dLen
    rw [if_neg (by omega), if_neg (by omega)]
    split
    · exact .inl ⟨rfl, by omega⟩
    · split
      · exact .inr (.inl ⟨rfl, by omega, by omega⟩)
      · split
        · exact .inr (.inr (.inl ⟨rfl, by omega, by omega⟩))
        · exact .inr (.inr (.inr ⟨rfl, by omega⟩))
  have l0 : z24.length = 24 := rfl
  have c1 : ∀ m : Nat, Bool.not (eqI (Int.ofNat (m + 1)) 0) = true := fun m => by
    have : eqI (Int.ofNat (m + 1)) 0 = false := by rw [eqI_false]; intro h; cases h
    rw [this]; rfl
  dsimp only
  rcases hL with ⟨e, q⟩ | ⟨e, q, q'⟩ | ⟨e, q, q'⟩ | ⟨e, q⟩ <;> rw [e] at hk ⊢
  · simp (disch := first | omega | simp only [List.length_set, l0]) only [↓asI_int, ↓fB_eq, ↓jd_is, ↓show ltI (Int.ofNat 3) (Int.ofNat 8) = true from rfl, ↓show ltI (Int.ofNat 3) (Int.ofNat 4) = true from rfl, ↓show ltI (Int.ofNat 3) (Int.ofNat 2) = false from rfl, ↓show ltI (Int.ofNat 0) (Int.ofNat (3 - 2)) = true from rfl, ↓Bool.not_true, ↓Bool.not_false, ↓br_t, ↓br_f, ↓fI_eq, w32u, w8dg, c1, ck_t, tmod_nat, tdiv_nat, mul_nat, add_nat, sub_i, w64i, dig_hi, dig_lo, ix_at, bt_set]
    refine hk _ (by simp only [List.length_set, l0]) ?_
    show [dg (x / 100), dg (x % 100 / 10), dg (x % 100)] = [dg (x / 10 / 10), dg (x / 10), dg (x)]
    simp only [List.cons.injEq, and_true]
    exact ⟨dge (by omega), dge (by omega), dge (by omega)⟩
  · simp (disch := first | omega | simp only [List.length_set, l0]) only [↓asI_int, ↓fB_eq, ↓jd_is, ↓show ltI (Int.ofNat 4) (Int.ofNat 8) = true from rfl, ↓show ltI (Int.ofNat 4) (Int.ofNat 4) = false from rfl, ↓show ltI (Int.ofNat (4 - 4)) (Int.ofNat 2) = true from rfl, ↓show ltI (Int.ofNat 0) (Int.ofNat (4 - 4)) = false from rfl, ↓Bool.not_true, ↓Bool.not_false, ↓br_t, ↓br_f, ↓fI_eq, w32u, w8dg, c1, ck_t, tmod_nat, tdiv_nat, mul_nat, add_nat, sub_i, w64i, dig_hi, dig_lo, ix_at, bt_set]
    refine hk _ (by simp only [List.length_set, l0]) ?_
    show [dg (x % 10000 / 100 / 10), dg (x % 10000 / 100), dg (x % 10000 % 100 / 10), dg (x % 10000 % 100)] = [dg (x / 10 / 10 / 10), dg (x / 10 / 10), dg (x / 10), dg (x)]
    simp only [List.cons.injEq, and_true]
    exact ⟨dge (by omega), dge (by omega), dge (by omega), dge (by omega)⟩
  · simp (disch := first | omega | simp only [List.length_set, l0]) only [↓asI_int, ↓fB_eq, ↓jd_is, ↓show ltI (Int.ofNat 5) (Int.ofNat 8) = true from rfl, ↓show ltI (Int.ofNat 5) (Int.ofNat 4) = false from rfl, ↓show ltI (Int.ofNat (5 - 4)) (Int.ofNat 2) = true from rfl, ↓show ltI (Int.ofNat 0) (Int.ofNat (5 - 4)) = true from rfl, ↓Bool.not_true, ↓Bool.not_false, ↓br_t, ↓br_f, ↓fI_eq, w32u, w8dg, c1, ck_t, tmod_nat, tdiv_nat, mul_nat, add_nat, sub_i, w64i, dig_hi, dig_lo, ix_at, bt_set]
    refine hk _ (by simp only [List.length_set, l0]) ?_
    show [dg (x / 10000), dg (x % 10000 / 100 / 10), dg (x % 10000 / 100), dg (x % 10000 % 100 / 10), dg (x % 10000 % 100)] = [dg (x / 10 / 10 / 10 / 10), dg (x / 10 / 10 / 10), dg (x / 10 / 10), dg (x / 10), dg (x)]
    simp only [List.cons.injEq, and_true]
    exact ⟨dge (by omega), dge (by omega), dge (by omega), dge (by omega), dge (by omega)⟩
  · simp (disch := first | omega | simp only [List.length_set, l0]) only [↓asI_int, ↓fB_eq, ↓jd_is, ↓show ltI (Int.ofNat 6) (Int.ofNat 8) = true from rfl, ↓show ltI (Int.ofNat 6) (Int.ofNat 4) = false from rfl, ↓show ltI (Int.ofNat (6 - 4)) (Int.ofNat 2) = false from rfl, ↓show ltI (Int.ofNat 0) (Int.ofNat (6 - 4 - 2)) = false from rfl, ↓Bool.not_true, ↓Bool.not_false, ↓br_t, ↓br_f, ↓fI_eq, w32u, w8dg, c1, ck_t, tmod_nat, tdiv_nat, mul_nat, add_nat, sub_i, w64i, dig_hi, dig_lo, ix_at, bt_set]
    refine hk _ (by simp only [List.length_set, l0]) ?_
    show [dg (x / 10000 % 100 / 10), dg (x / 10000 % 100), dg (x % 10000 / 100 / 10), dg (x % 10000 / 100), dg (x % 10000 % 100 / 10), dg (x % 10000 % 100)] = [dg (x / 10 / 10 / 10 / 10 / 10), dg (x / 10 / 10 / 10 / 10), dg (x / 10 / 10 / 10), dg (x / 10 / 10), dg (x / 10), dg (x)]
    simp only [List.cons.injEq, and_true]
    exact ⟨dge (by omega), dge (by omega), dge (by omega), dge (by omega), dge (by omega), dge (by omega)⟩
end
end Go.Proofs.YtcohflkjinpcpaaGreatDoor

/- Names. No condition. -/
namespace Go.Proofs.YtcohflkjinpcpaaGreatDoor
open Go Go.Am
set_option linter.all false
set_option maxRecDepth 100000
abbrev c24 : List AV := [(.int .u8 0), (.int .u8 0), (.int .u8 0), (.int .u8 0), (.int .u8 0), (.int .u8 0), (.int .u8 0), (.int .u8 0), (.int .u8 0), (.int .u8 0), (.int .u8 0), (.int .u8 0), (.int .u8 0), (.int .u8 0), (.int .u8 0), (.int .u8 0), (.int .u8 0), (.int .u8 0), (.int .u8 0), (.int .u8 0), (.int .u8 0), (.int .u8 0), (.int .u8 0), (.int .u8 0)]
theorem c24_is : toBytes c24 = some (Str.of z24) := by kernel_rfl
theorem put_is {h : H} {id : Nat} (b : Blk) (hi : id < h.next) (hb : h.base ≤ id) : h.put id b = some (putted h id b) := by
  rw [H.put_eq, if_pos ⟨hi, hb⟩]; rfl
theorem arr_first {h : H} {id L : Nat} {k : AV → H → Prop} (g : h.get id = .cells false 135 c24) (hi : id < h.next) (hb : h.base ≤ id) (hL : 1 + L ≤ 24) :
    op2 (aSliceArr 24 (.ptr id 0) (some (.int .i64 (Int.ofNat 1))) (some (.int .i64 (Int.ofNat (1 + L)))) h) k = k (.slice id 1 L 23 1 true) (BT id h z24) := by
  unfold aSliceArr
  simp only [bnd]
  rw [(ble_iff (1 + L) 24).2 hL, (ble_iff 1 (1 + L)).2 (by omega), show Nat.blt 1 24 = true from rfl, g]
  show op2 (match toBytes c24 with | some s => _ | none => none) k = _
  rw [c24_is]
  show op2 (match h.put id (.bytes 135 0 true (Str.of z24)) with | some h1 => _ | none => none) k = _
  rw [put_is _ hi hb]
  simp only [seqN_eq]
  have e : Nat.sub (1 + L) 1 = L := by show 1 + L - 1 = L; omega
  rw [e]
  rfl
theorem arr_again {h : H} {id L : Nat} {l : List UInt8} {k : AV → H → Prop} (hl : l.length = 24) (hi : id < h.next) (hL : 1 + L ≤ 24) :
    op2 (aSliceArr 24 (.ptr id 0) (some (.int .i64 (Int.ofNat 1))) (some (.int .i64 (Int.ofNat (1 + L)))) (BT id h l)) k = k (.slice id 1 L 23 1 true) (BT id h l) := by
  unfold aSliceArr
  simp only [bnd]
  have g : (BT id h l).get id = .bytes 135 0 true (Str.of l) := by unfold BT; rw [putted_get _ _ _ hi, if_pos rfl]
  rw [(ble_iff (1 + L) 24).2 hL, (ble_iff 1 (1 + L)).2 (by omega), show Nat.blt 1 24 = true from rfl, g]
  show op2 (match Nat.ble (Nat.add 0 24) (Str.of l).len with | true => _ | false => none) k = _
  rw [of_len, hl, show Nat.ble (Nat.add 0 24) 24 = true from rfl]
  simp only [seqN_eq]
  have e : Nat.sub (1 + L) 1 = L := by show 1 + L - 1 = L; omega
  rw [e]
  rfl
theorem dLen_le (n : Nat) : 1 ≤ dLen n ∧ dLen n ≤ 6 := by
  unfold dLen
  split
  · exact ⟨by decide, by decide⟩
  split
  · exact ⟨by decide, by decide⟩
  split
  · exact ⟨by decide, by decide⟩
  split
  · exact ⟨by decide, by decide⟩
  split
  · exact ⟨by decide, by decide⟩
  · exact ⟨by decide, by decide⟩
theorem dLen_pow {n : Nat} (h : n < 1000000) : n < 10 ^ dLen n := by
  unfold dLen
  split
  · show n < 10; omega
  split
  · show n < 100; omega
  split
  · show n < 1000; omega
  split
  · show n < 10000; omega
  split
  · show n < 100000; omega
  · show n < 1000000; omega
section
variable {KS : Str → H → Prop}
theorem t73 {n : Nat} {h : H} (gp : GP h) (hb : h.base ≤ h.next) (hn : n < 1000000) (hk : ∀ h', Low h.next h h' → KS (Str.of (digS (dLen n) n)) h') :
    s73G J0 (s87G J0) (s88G J0 (s98G J0) (s99G J0) (s100G J0)) (s89G J0) (Int.ofNat n) (Int.ofNat 10) h KS := by
  unfold s73G
  have e1 : eqI (Int.ofNat 10) (Int.ofNat 10) = true := rfl
  have e2 : ltI (Int.ofNat n) (Int.ofNat 0) = false := ge_ltI (Nat.zero_le _)
  simp only [↓fB_eq, e1, e2, ↓br_t, ↓br_f, ↓Bool.not_false, ↓jn_is, ↓asI_int, ltI_nat]
  by_cases h1 : n < 100
  · have e3 : decide (n < 100) = true := decide_eq_true h1
    simp only [e3, ↓pickB_t, ↓asB_bool, ↓br_t]
    exact t87 h1 (hk h (Low.refl _ _))
  have e3 : decide (n < 100) = false := decide_eq_false h1
  have q0 : 0 < h.base := by obtain ⟨_, _, g⟩ := gp; exact g
  have l2 := Low.push h.next h (.cells false 135 c24) (Nat.le_refl _)
  have g2 := new_at h (.cells false 135 c24)
  have n2 : (pushed h (.cells false 135 c24)).next = h.next + 1 := rfl
  simp only [e3, ↓pickB_t, ↓asB_bool, ↓br_f]
  rw [pushK_is]
  generalize pushed h (.cells false 135 c24) = h2 at l2 g2 n2 ⊢
  have b2 := l2.base
  simp only [↓jd_is, ↓fI_eq, ↓asI_int, e2, ↓fB_eq, ↓br_f]
  rw [w64u _ (by omega)]
  refine t88 (gp.low l2 (by omega)) (by omega) hn ?_
  obtain ⟨d1, d2⟩ := dLen_le n
  rw [add_nat, w64i _ (by omega), arr_first g2 (by omega) (by omega) (by omega)]
  refine t89 (by omega) hn (by omega) (by omega) fun l hl hs => ?_
  rw [arr_again hl (by omega) (by omega)]
  have s1 : SlB (BT h.next h2 l) (.slice h.next 1 (dLen n) 23 1 true) (digS (dLen n) n) := by
    have e : (digS (dLen n) n).length = dLen n := digS_len _ _
    refine .inr ⟨h.next, 1, 23, true, 135, 0, true, l, by rw [e], ?_, by rw [e]; omega, by rw [e]; exact hs, by rw [e]; omega⟩
    unfold BT
    rw [putted_get _ _ _ (by omega), if_pos rfl]
  rw [s1.str]
  exact hk _ (l2.trans (.put _ (by omega) (Nat.le_refl _)))
end
/-- noughts, as many as are lacking -/
def p37 : Fun := fun xs h k => ∃ m, m < 6 ∧ xs = [.str ⟨1, 48⟩, .int .i64 (Int.ofNat m)] ∧ k (.str (Str.of (List.replicate m 48))) h
theorem p37_ok : FunOk Tryz.prog 37 p37 := g37_ok.alone.imp fun xs h k e0 => by
  obtain ⟨m, hm, rfl, e⟩ := e0
  rw [← zero_is m hm] at e
  have hu : AV.underL H0.next [AV.str ⟨1, 48⟩, .int .i64 (Int.ofNat m)] := by simp [AV.underL, AV.under]
  have key : ∀ (K : AV → Prop), K (.str (zeroS m)) = g37 [.str ⟨1, 48⟩, .int .i64 (Int.ofNat m)] H0 fun r _ => K r := fun K => by
    have hm' : m = 0 ∨ m = 1 ∨ m = 2 ∨ m = 3 ∨ m = 4 ∨ m = 5 := by omega
    rcases hm' with rfl | rfl | rfl | rfl | rfl | rfl
    · exact rep0 K
    · exact rep1 K
    · exact rep2 K
    · exact rep3 K
    · exact rep4 K
    · exact rep5 K
  refine ⟨H0, Sub.empty h, AllRows.empty, hu, Eq.mp (key fun r => AV.under H0.next r ∧ k r h) ⟨by simp only [AV.under], e⟩⟩
def namS (n : Int) : List UInt8 := if n < 1 ∨ 999999 < n then [] else [119, 97, 108, 45] ++ digS 6 n.toNat
def namE (n : Int) : Int := if n < 1 ∨ 999999 < n then Int.ofNat 2 else Int.ofNat 0
theorem wal4 : (⟨4, 2002873389⟩ : Str) = Str.of [119, 97, 108, 45] := by decide +kernel
section
variable {KN : Str → Int → H → Prop}
theorem t13 {n : Int} {h : H} (hk : KN (Str.of (namS n)) (namE n) h) : s13G J0 (s38G J0) n h KN := by
  unfold s13G
  have bad : (n < 1 ∨ 999999 < n) → KN ⟨0, 0⟩ (Int.ofNat 2) h := fun hc => by
    unfold namS namE at hk; rw [if_pos hc, if_pos hc] at hk; exact hk
  cases h1 : ltI n (Int.ofNat 1)
  rotate_left
  · simp only [↓fB_eq, h1, ↓jn_is, ↓br_t, ↓br_f, ↓pickB_t, ↓pickB_f, ↓asB_bool]
    exact bad (.inl (ltI_true.1 h1))
  cases h2 : ltI (Int.ofNat 999999) n
  rotate_left
  · simp only [↓fB_eq, h1, h2, ↓jn_is, ↓br_t, ↓br_f, ↓pickB_t, ↓pickB_f, ↓asB_bool, ↓asI_int]
    exact bad (.inr (ltI_true.1 h2))
  simp only [↓fB_eq, h1, h2, ↓jn_is, ↓br_t, ↓br_f, ↓pickB_t, ↓pickB_f, ↓asB_bool, ↓asI_int]
  have q1 : 1 ≤ n := ltI_false.1 h1
  have q2 : n ≤ 999999 := ltI_false.1 h2
  unfold namS namE at hk
  rw [if_neg (by omega), if_neg (by omega)] at hk
  obtain ⟨m, rfl⟩ : ∃ m : Nat, n = Int.ofNat m := ⟨n.toNat, by show n = ((n.toNat : Nat) : Int); omega⟩
  have hm : m < 1000000 := by have : (m : Int) ≤ 999999 := q2; omega
  refine t38 (by omega) ?_
  have hl := digS_len 6 m
  refine ck_intro (by rw [of_len, hl]; rfl) ?_
  rw [fS_eq, wal4, Str.cat_of]
  exact hk
theorem t12 {n : Int} {h : H} (gp : GP h) (hb : h.base ≤ h.next) (hk : ∀ h', Low h.next h h' → KN (Str.of (namS n)) (namE n) h') :
    s12G J0 (s36G J0 (s53G J0 (s73G J0 (s87G J0) (s88G J0 (s98G J0) (s99G J0) (s100G J0)) (s89G J0)))) p37 n h KN := by
  unfold s12G
  have bad : (n < 1 ∨ 999999 < n) → KN ⟨0, 0⟩ (Int.ofNat 2) h := fun hc => by
    have hk := hk h (Low.refl _ _)
    unfold namS namE at hk; rw [if_pos hc, if_pos hc] at hk; exact hk
  cases h1 : ltI n (Int.ofNat 1)
  rotate_left
  · simp only [↓fB_eq, h1, ↓jn_is, ↓br_t, ↓br_f, ↓pickB_t, ↓pickB_f, ↓asB_bool]
    exact bad (.inl (ltI_true.1 h1))
  cases h2 : ltI (Int.ofNat 999999) n
  rotate_left
  · simp only [↓fB_eq, h1, h2, ↓jn_is, ↓br_t, ↓br_f, ↓pickB_t, ↓pickB_f, ↓asB_bool, ↓asI_int]
    exact bad (.inr (ltI_true.1 h2))
  simp only [↓fB_eq, h1, h2, ↓jn_is, ↓br_t, ↓br_f, ↓pickB_t, ↓pickB_f, ↓asB_bool, ↓asI_int]
  have q1 : 1 ≤ n := ltI_false.1 h1
  have q2 : n ≤ 999999 := ltI_false.1 h2
  unfold namS namE at hk
  rw [if_neg (by omega), if_neg (by omega)] at hk
  obtain ⟨m, rfl⟩ : ∃ m : Nat, n = Int.ofNat m := ⟨n.toNat, by show n = ((n.toNat : Nat) : Int); omega⟩
  have hm : m < 1000000 := by have : (m : Int) ≤ 999999 := q2; omega
  have hk : ∀ h', Low h.next h h' → KN (Str.of ([119, 97, 108, 45] ++ digS 6 m)) (Int.ofNat 0) h' := hk
  unfold s36G s53G
  refine t73 gp hb hm fun h1 l1 => ?_
  obtain ⟨d1, d2⟩ := dLen_le m
  have e0 := digS_len (dLen m) m
  rw [fI_eq, of_len, e0, sub_i _ _ d2, w64i _ (by omega)]
  refine ⟨6 - dLen m, by omega, rfl, ?_⟩
  show asS _ _
  rw [asS_str, wal4]
  refine ck_intro (by rw [of_len, ble_iff, List.length_replicate]; show 4 + (6 - dLen m) ≤ _; omega) ?_
  rw [fS_eq, Str.cat_of]
  refine ck_intro (by rw [of_len, ble_iff, List.length_append, List.length_replicate]; show 4 + (6 - dLen m) + dLen m ≤ _; omega) ?_
  rw [fS_eq, Str.cat_of]
  have := digS_pad (dLen m) (6 - dLen m) m (dLen_pow hm)
  rw [show dLen m + (6 - dLen m) = 6 from by omega] at this
  have hk := hk h1 l1
  rw [this, ← List.append_assoc] at hk
  exact hk
end
end Go.Proofs.YtcohflkjinpcpaaGreatDoor
