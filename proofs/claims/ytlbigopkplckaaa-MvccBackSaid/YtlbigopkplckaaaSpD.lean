/- The functions of the layer of versions, each told by what it answers: stamps, places, cells, intents. No condition. -/
import Derived.Test.YtlbigopkplckaaaSpC
namespace Go.Proofs.Ytlbigopkplckaaa
open Go Go.Am
set_option linter.all false
set_option maxRecDepth 100000
theorem okS_iff {w l t : Int} (h : okS w l t = true) : 0 ≤ w ∧ w ≤ 1099511627776 ∧ 0 ≤ l ∧ l ≤ 1048576 ∧ 0 ≤ t ∧ t ≤ 1048576 := by
  simp only [okS, Bool.and_eq_true, Bool.not_eq_true', ltI_eq, decide_eq_false_iff_not] at h
  obtain ⟨h1, h2, h3, h4, h5, h6⟩ := h
  have h1 : ¬ w < 0 := h1
  have h2 : ¬ (1099511627776 : Int) < w := h2
  have h3 : ¬ l < 0 := h3
  have h4 : ¬ (1048576 : Int) < l := h4
  have h5 : ¬ t < 0 := h5
  have h6 : ¬ (1048576 : Int) < t := h6
  omega
theorem okT_iff {n m : Int} (h : okT n m = true) : 0 ≤ n ∧ n < 7 ∧ 1 ≤ m ∧ m ≤ 100000 := by
  simp only [okT, Bool.and_eq_true, Bool.not_eq_true', ltI_eq, decide_eq_false_iff_not, decide_eq_true_eq] at h
  obtain ⟨h1, h2, h3, h4⟩ := h
  have h1 : ¬ n < 0 := h1
  have h2 : n < 7 := h2
  have h3 : ¬ m < 1 := h3
  have h4 : ¬ (100000 : Int) < m := h4
  omega
theorem usr_iff {l : List UInt8} (h : usr (Str.of l) = true) : 1 ≤ l.length ∧ l.length ≤ 128 := by
  simp only [usr, Bool.and_eq_true, Bool.not_eq_true', ltI_eq, decide_eq_false_iff_not] at h
  obtain ⟨h1, h2⟩ := h
  have h1 : ¬ (l.length : Int) < 1 := h1
  have h2 : ¬ (128 : Int) < (l.length : Int) := h2
  omega
theorem wor_iff {l : List UInt8} {d : Bool} (h : wor (Str.of l) d = true) : l.length ≤ 2048 ∧ (d = true → l = []) := by
  simp only [wor, Bool.and_eq_true, Bool.not_eq_true', ltI_eq, decide_eq_false_iff_not] at h
  obtain ⟨h1, h2⟩ := h
  have h1 : ¬ (2048 : Int) < (l.length : Int) := h1
  refine ⟨by omega, fun hd => ?_⟩
  subst hd
  have h2 : Str.beq (Str.of l) (Str.of []) = true := h2
  rw [Str.beq_of] at h2
  exact eq_of_beq h2
theorem toNat_of {x : Int} (h : 0 ≤ x) : x = Int.ofNat x.toNat := by
  show x = (x.toNat : Int)
  omega
/-! ## a stamp's text -/
section
variable {K : Str → Prop} {KS : Str → Int → Prop} {KA : AV → Int → Prop}
theorem w64 {c : Nat} {x : Int} (h0 : 0 ≤ x) (h1 : x ≤ Int.ofNat c) (hc : c < 9223372036854775808) : wrapF .u64 (wrapF .i64 (Int.sub (Int.ofNat c) x)) = Int.ofNat (c - x).toNat := by
  have h1 : x ≤ (c : Int) := h1
  have e : Int.sub (Int.ofNat c) x = (c : Int) - x := rfl
  rw [e, wrap_i64_in (by omega) (by omega), toNat_of (x := (c : Int) - x) (by omega)]
  exact wrapF_nat (kk := .u64) (by show ((c : Int) - x).toNat < 18446744073709551616; omega)
theorem wd32 {c : Nat} {x : Int} (h0 : 0 ≤ x) (h1 : x ≤ Int.ofNat c) (hc : c < 2147483648) : wrapF .u64 (wrapF .i32 (Int.sub (Int.ofNat c) x)) = Int.ofNat (c - x).toNat := by
  have h1 : x ≤ (c : Int) := h1
  have e : Int.sub (Int.ofNat c) x = (c : Int) - x := rfl
  rw [e, wrap_i32_in (by omega) (by omega), toNat_of (x := (c : Int) - x) (by omega)]
  exact wrapF_nat (kk := .u64) (by show ((c : Int) - x).toNat < 18446744073709551616; omega)
theorem wu {c : Nat} {x : Int} (h0 : 0 ≤ x) (h1 : x ≤ Int.ofNat c) (hc : c < 9223372036854775808) : wrapF .u64 (Int.sub (Int.ofNat c) (wrapF .u64 x)) = Int.ofNat (c - x).toNat := by
  have h1 : x ≤ (c : Int) := h1
  have e1 : wrapF .u64 x = x := by
    rw [toNat_of h0]; exact wrapF_nat (kk := .u64) (by show x.toNat < 18446744073709551616; omega)
  have e : Int.sub (Int.ofNat c) x = (c : Int) - x := rfl
  rw [e1, e, toNat_of (x := (c : Int) - x) (by omega)]
  exact wrapF_nat (kk := .u64) (by show ((c : Int) - x).toNat < 18446744073709551616; omega)
theorem sl_row {g : Bool} {n i : Nat} {h : H} {v : AV} {l : List UInt8} (r : Row g 5 n h v l) (h0 : l ≠ []) (hi : i ≤ l.length) {k : AV → Prop} (hk : ∀ u, (∀ f : Str → Prop, srcB (.slice 5) u h f = f (Str.of (l.drop i))) → k u) :
    slK 1 v (some (.int .i64 (Int.ofNat i))) none k := by
  rcases r with ⟨_, r⟩ | ⟨id, ex, sg, rfl, r2, r3, r4, r5⟩
  · exact absurd r h0
  show ck (Nat.ble l.length l.length) (ck (Nat.ble i l.length) (ck (Nat.beq 1 1) (br (Nat.beq l.length i) (fN (Nat.sub l.length i) fun n => k (.slice id 0 n 0 1 ex)) (fN (Nat.add 0 (Nat.mul i 1)) fun o => fN (Nat.sub l.length i) fun n => fN (Nat.sub l.length i) fun c => k (.slice id o n c 1 ex)))))
  refine ck_intro (by rw [ble_iff]; omega) (ck_intro (by rw [ble_iff]; exact hi) (ck_intro rfl ?_))
  have src : ∀ o n c : Nat, o + n = l.length ∧ l.drop o = l.drop i ∨ (n = 0 ∧ o = 0 ∧ l.drop i = []) → ∀ f : Str → Prop, srcB (.slice 5) (.slice id o n c 1 ex) h f = f (Str.of (l.drop i)) := fun o n c hon f => by
    show asRow' (h.get id) (fun _ _ _ => False) (fun _ _ _ s => fN (Nat.add o n) fun e => ck (Nat.ble e s.len) (fS (s.sub o e) f)) = _
    rw [r4, asRow_bytes, fN_eq]
    have hle : o + n ≤ l.length := by rcases hon with h | h <;> omega
    show ck (Nat.ble (o + n) l.length) (fS ((Str.of l).sub o (o + n)) f) = _
    rw [(ble_iff _ _).2 hle, Str.sub_of l o (o + n) (by omega) hle, fS_eq]
    show f _ = _
    congr 2
    rcases hon with ⟨h1, h2⟩ | ⟨h1, h2, h3⟩
    · rw [h1, List.take_length, h2]
    · rw [h1, h2, h3]; rfl
  refine br_intro (fun hb => ?_) fun hb => ?_
  · rw [Nat.beq_eq] at hb
    rw [fN_eq]
    exact hk _ (src _ _ _ (.inr ⟨by show l.length - i = 0; omega, rfl, by rw [List.drop_eq_nil_iff]; omega⟩))
  · rw [fN_eq, fN_eq, fN_eq]
    have e0 : Nat.add 0 (Nat.mul i 1) = i := by show 0 + i * 1 = i; omega
    rw [e0]
    exact hk _ (src _ _ _ (.inl ⟨by show i + (l.length - i) = l.length; omega, rfl⟩))
theorem t66 {w l t : Int} (ho : okS w l t = true) (hk : ∀ r e, r = Str.of (stB w l t) → e = Int.ofNat 0 → KS r e) : s66G J0 (s52G J0) pOkS (s79G J0 (s87G J0 (s72G J0 g83))) (stAV w l t) H0 fun r e _ => KS r e := by
  obtain ⟨q1, q2, q3, q4, q5, q6⟩ := okS_iff ho
  unfold s66G stAV
  rw [asAgg_agg, pushK_is]
  have g0 : (pushed H0 (.cells false 28 [.int .i64 w, .int .i32 l, .int .i32 t])).get 0 = .cells false 28 [.int .i64 w, .int .i32 l, .int .i32 t] := by rw [pushed_get]; exact if_pos rfl
  generalize hh : pushed H0 (.cells false 28 [.int .i64 w, .int .i32 l, .int .i32 t]) = h2 at g0
  have n2 : h2.next = 1 := by rw [← hh]; rfl
  have b2 : h2.base = 0 := by rw [← hh]; rfl
  rw [show H0.next = 0 from rfl, ldN_at g0 (l := [.int .i64 w, .int .i32 l, .int .i32 t]) rfl]
  refine ⟨w, l, t, rfl, ?_⟩
  dsimp only
  rw [ho, fB_eq]
  rw [show (!true) = false from rfl, br_f]
  rw [pushK_is]
  have bl := Bld.new h2 (by omega)
  have lo := Low.push h2.next h2 (.cells false 81 [.nilp, .nils]) (Nat.le_refl _)
  generalize hh3 : pushed h2 (.cells false 81 [.nilp, .nils]) = h3 at bl lo
  rw [n2] at bl lo ⊢
  have g3 : h3.get 0 = _ := (lo.get 0 (by omega)).trans g0
  rw [ldI_at g3 (x := w) rfl, fI_eq, fI_eq, w64 q1 (Int.le_trans q2 (by decide)) (by decide)]
  refine t79 bl (by simp) (by decide) fun h4 b4 l4 => ?_
  have g4 : h4.get 0 = _ := (l4.get 0 (by omega)).trans g3
  rw [ldI_at g4 (x := l) rfl, fI_eq, fI_eq, wd32 q3 (Int.le_trans q4 (by decide)) (by decide)]
  refine t79 b4 (by simp [be_len]) (by decide) fun h5 b5 l5 => ?_
  have g5 : h5.get 0 = _ := (l5.get 0 (by omega)).trans g4
  rw [ldI_at g5 (x := t) rfl, fI_eq, fI_eq, wd32 q5 (Int.le_trans q6 (by decide)) (by decide)]
  refine t79 b5 (by simp [be_len]) (by decide) fun h6 b6 l6 => ?_
  refine t52 b6 (by simp [be]) (by simp [be_len]) fun h7 l7 => ?_
  refine hk _ _ ?_ rfl
  simp [stB]
theorem t68 {w l t : Int} {c81 : Int → H → (AV → H → Prop) → Prop} (hc : ∀ (x : Nat) (h : H) (K : AV → H → Prop), h.base ≤ h.next → (∀ v h', Row true 5 h.next h' v (be 8 x) → Low h.next h h' → K v h') → c81 (Int.ofNat x) h K)
    (ho : okS w l t = true) (hk : ∀ r e, r = Str.of (stB w l t) → e = Int.ofNat 0 → KS r e) : s68G J0 c81 (stAV w l t) H0 fun r e _ => KS r e := by
  obtain ⟨q1, q2, q3, q4, q5, q6⟩ := okS_iff ho
  have ho' := ho
  simp only [okS, Bool.and_eq_true, Bool.not_eq_true'] at ho'
  obtain ⟨f1, f2, f3, f4, f5, f6⟩ := ho'
  unfold s68G
  simp only [fI_eq]
  conv => whnf
  refine rec_false f1 ?_
  conv => whnf
  refine rec_false f2 ?_
  conv => whnf
  refine rec_false f3 ?_
  conv => whnf
  refine rec_false f4 ?_
  conv => whnf
  refine rec_false f5 ?_
  conv => whnf
  refine rec_false f6 ?_
  conv => whnf
  rw [wu q1 (Int.le_trans q2 (by decide)) (by decide)]
  refine hc _ _ _ (Nat.zero_le _) fun v1 h1 r1 l1 => ?_
  have r1 : Row true 5 1 h1 v1 _ := r1
  have g1 : h1.get 0 = .cells false 28 [.int .i64 w, .int .i32 l, .int .i32 t] := (l1.get 0 (Nat.succ_pos 0)).trans rfl
  have n1 : 1 ≤ h1.next := l1.next
  have b1 : h1.base = 0 := l1.base
  rw [ldI_at g1 (x := l) rfl, wu q3 (Int.le_trans q4 (by decide)) (by decide)]
  refine hc _ _ _ (by omega) fun v2 h2 r2 l2 => ?_
  have g2 : h2.get 0 = _ := (l2.get 0 (by omega)).trans g1
  refine sl_row r2 (by simp [be]) (by simp [be_len]) fun u1 e1 => ?_
  have n2 := l2.next
  refine apB_row (r1.low l2 (Nat.le_refl _)) (by rw [l2.base]; omega) (by omega) e1 (by simp [be_len, mostRoom]) fun v3 h3 r3 l3 => ?_
  have g3 : h3.get 0 = _ := (l3.get 0 (by omega)).trans g2
  have n3 := l3.next
  have b3 : h3.base = 0 := by rw [l3.base, l2.base, b1]
  rw [ldI_at g3 (x := t) rfl, wu q5 (Int.le_trans q6 (by decide)) (by decide)]
  refine hc _ _ _ (by omega) fun v4 h4 r4 l4 => ?_
  have n4 := l4.next
  refine sl_row r4 (by simp [be]) (by simp [be_len]) fun u2 e2 => ?_
  refine apB_row (r3.low l4 (Nat.le_refl _)) (by rw [l4.base]; omega) (by omega) e2 (by simp [be_len, mostRoom]) fun v5 h5 r5 l5 => ?_
  rw [r5.str]
  refine hk _ _ ?_ rfl
  simp [stB, be]
noncomputable def pSt2 : AV → H → (Str → Int → H → Prop) → Prop := fun a h k => ∃ w l t, a = stAV w l t ∧ okS w l t = true ∧ k (Str.of (stB w l t)) (Int.ofNat 0) h
noncomputable def pSt : AV → H → (Str → H → Prop) → Prop := fun a h k => ∃ w l t, a = stAV w l t ∧ okS w l t = true ∧ k (Str.of (stB w l t)) h
theorem t30 {w l t : Int} (ho : okS w l t = true) (hk : ∀ r, r = Str.of (stB w l t) → K r) : s30G J0 pSt2 (stAV w l t) H0 fun r _ => K r := by
  conv => whnf
  refine ⟨_, _, _, rfl, ho, ?_⟩
  exact hk _ rfl
theorem t39 {w l t : Int} (ho : okS w l t = true) (hk : ∀ r, r = Str.of (stB w l t) → K r) : s39G J0 pSt2 (stAV w l t) H0 fun r _ => K r := by
  conv => whnf
  refine ⟨_, _, _, rfl, ho, ?_⟩
  exact hk _ rfl
/-! ## the mark of what is deleted, and a value -/
theorem t31 {d : Bool} {v : List UInt8} (hv : v.length ≤ 100000) (hk : ∀ r, r = Str.of (flagB d v) → K r) : s31G J0 d (Str.of v) H0 fun r _ => K r := by
  unfold s31G
  cases d
  · show ck _ _
    refine ck_intro ?_ ?_
    · rw [ble_iff]; show 1 + v.length ≤ _; omega
    · rw [fS_eq]
      refine hk _ ?_
      show Str.cat (Str.of [0]) (Str.of v) = _
      rw [Str.cat_of]; rfl
  · exact hk _ rfl
/-! ## four bytes -/
theorem t73 {m : Nat} (hk : ∀ r, r = Str.of (be 4 m) → K r) : s73G J0 (Int.ofNat m) H0 fun r _ => K r := by
  unfold s73G
  simp only [fI_eq]
  rw [nmin_le (by decide), nmin_le (by decide), nmin_le (by decide), shr_nat, shr_nat, shr_nat, ofNat_bI, ofNat_bI, ofNat_bI, ofNat_bI]
  show op' (asRow true 5 ([UInt8.ofNat (m >>> 24), UInt8.ofNat (m >>> 16), UInt8.ofNat (m >>> 8), UInt8.ofNat m].map fun c => AV.int .u8 (bI c))) _
  rw [asRow_map, op'_some, pushK_is]
  have r : Row true 5 0 (pushed H0 (.bytes 5 0 false (Str.of [UInt8.ofNat (m >>> 24), UInt8.ofNat (m >>> 16), UInt8.ofNat (m >>> 8), UInt8.ofNat m]))) (.slice H0.next 0 4 4 1 true) _ := Row.push false true (Nat.zero_le _)
  rw [r.str]
  exact hk _ rfl
theorem t75 {m : Nat} (hk : ∀ r, r = Str.of (be 4 m) → K r) : s75G J0 (Int.ofNat m) H0 fun r _ => K r := by
  unfold s75G
  simp only [fI_eq]
  rw [nmin_le (by decide), nmin_le (by decide), nmin_le (by decide), shr_nat, shr_nat, shr_nat, ofNat_bI, ofNat_bI, ofNat_bI, ofNat_bI]
  show op' (asRow true 5 ([UInt8.ofNat (m >>> 24), UInt8.ofNat (m >>> 16), UInt8.ofNat (m >>> 8), UInt8.ofNat m].map fun c => AV.int .u8 (bI c))) _
  rw [asRow_map, op'_some, pushK_is]
  have r : Row true 5 0 (pushed H0 (.bytes 5 0 false (Str.of [UInt8.ofNat (m >>> 24), UInt8.ofNat (m >>> 16), UInt8.ofNat (m >>> 8), UInt8.ofNat m]))) (.slice H0.next 0 4 4 1 true) _ := Row.push false true (Nat.zero_le _)
  rw [r.str]
  exact hk _ rfl
noncomputable def pFour : Int → H → (Str → H → Prop) → Prop := fun a h k => ∃ m : Nat, a = Int.ofNat m ∧ k (Str.of (be 4 m)) h
def plB (n m : Nat) : List UInt8 := 114 :: (be 4 n ++ be 4 m)
theorem t51 {n m : Nat} (hk : ∀ r, r = Str.of (plB n m) → K r) : s51G J0 pFour (txAV (Int.ofNat n) (Int.ofNat m)) H0 fun r _ => K r := by
  unfold s51G
  simp only [fS_eq]
  conv => whnf
  refine ⟨n, rfl, ?_⟩
  refine ck_intro (reads_self rfl (by simp [AV.same])) (ck_intro ?_ ?_)
  · rw [ble_iff]; show 1 + (be 4 n).length ≤ _; rw [be_len]; decide
  · refine ⟨m, rfl, ?_⟩
    dsimp only
    rw [show ({ len := 1, val := 114 } : Str) = Str.of [114] from rfl, Str.cat_of, Str.cat_of]
    refine ck_intro ?_ (hk _ rfl)
    rw [ble_iff]; show ([114] ++ be 4 n).length + (be 4 m).length ≤ _; simp [be_len]
theorem t54 {n m : Nat} (hk : ∀ r, r = Str.of (plB n m) → K r) : s54G J0 pFour (txAV (Int.ofNat n) (Int.ofNat m)) H0 fun r _ => K r := by
  unfold s54G
  simp only [fS_eq]
  conv => whnf
  refine ⟨n, rfl, ?_⟩
  refine ck_intro (reads_self rfl (by simp [AV.same])) (ck_intro ?_ ?_)
  · rw [ble_iff]; show 1 + (be 4 n).length ≤ _; rw [be_len]; decide
  · refine ⟨m, rfl, ?_⟩
    dsimp only
    rw [show ({ len := 1, val := 114 } : Str) = Str.of [114] from rfl, Str.cat_of, Str.cat_of]
    refine ck_intro ?_ (hk _ rfl)
    rw [ble_iff]; show ([114] ++ be 4 n).length + (be 4 m).length ≤ _; simp [be_len]
end
end Go.Proofs.Ytlbigopkplckaaa
