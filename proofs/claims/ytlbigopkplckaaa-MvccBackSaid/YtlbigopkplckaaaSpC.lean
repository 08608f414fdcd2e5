/- The functions of the layer of versions, each told by what it answers: stamps, texts that are built up, places. No condition. -/
import Derived.Test.YtlbigopkplckaaaSpB
namespace Go.Proofs.Ytlbigopkplckaaa
open Go Go.Am
set_option linter.all false
set_option maxRecDepth 100000
theorem sub_nat {a b : Nat} (h : b ≤ a) : Int.sub (Int.ofNat a) (Int.ofNat b) = Int.ofNat (a - b) := by
  show (a : Int) - (b : Int) = ((a - b : Nat) : Int)
  omega
theorem nmin_le {a b : Nat} (h : a ≤ b) : nmin a b = a := by
  unfold nmin; rw [(ble_iff a b).2 h]
theorem lt_of_ltI {a b : Nat} (h : ltI (Int.ofNat a) (Int.ofNat b) = true) : a < b := by
  have h2 : (a : Int) < (b : Int) := ltI_true.1 h
  omega
theorem ge_of_ltI {a b : Nat} (h : ltI (Int.ofNat a) (Int.ofNat b) = false) : b ≤ a := by
  have h2 : (b : Int) ≤ (a : Int) := ltI_false.1 h
  omega
/-! ## a number behind bytes, in the document's words -/
theorem t42 {h : H} {a0 : AV} {l : List UInt8} {x m : Nat} {g : Bool} (r : Row g 5 m h a0 l) (hx : x < 9223372036854775808) (hl : l.length ≤ 100000) (hb : h.base ≤ h.next) {K : AV → H → Prop}
    (hk : ∀ v h', Row true 5 h.next h' v (l ++ uv x) → Low h.next h h' → K v h') : s42G J0 (rec70 64) a0 (Int.ofNat x) h K := by
  unfold s42G
  show op' (asRow true 5 (([] : List UInt8).map fun c => AV.int .u8 (bI c))) _
  rw [asRow_map, op'_some, pushK_is]
  have l0 := Low.push h.next h (.bytes 5 0 false (Str.of [])) (Nat.le_refl _)
  have r0 : Row true 5 h.next (pushed h (.bytes 5 0 false (Str.of []))) (.slice h.next 0 0 0 1 true) [] := Row.push false true (Nat.le_refl _)
  refine apB_row r0 (by rw [pushed_base]; exact hb) (by rw [pushed_next]; omega) (fun f => srcB_row (r.low l0 (Nat.le_refl _)) f) (by simp [mostRoom]; omega) fun v1 h1 r1 l1 => ?_
  have l01 := l0.trans l1
  have hlen := uv_len 9 x (Nat.lt_trans hx (by decide))
  refine t70 64 9 x (by decide) (Nat.lt_trans hx (by decide)) (by omega) (by rw [l01.base]; have := l01.next; omega) fun v2 h2 r2 l2 => ?_
  refine apB_row (r1.low l2 (Nat.le_refl _)) (by rw [l2.base, l01.base]; exact hb) (by have := l01.next; have := l2.next; omega) (fun f => srcB_row r2 f) (by simp [mostRoom]; omega) fun v3 h3 r3 l3 => ?_
  exact hk _ _ (by simpa using r3) ((l01.trans (l2.down l01.next)).trans l3)
/-! ## a value's last piece -/
theorem t40 {h : H} {a0 : AV} {l v : List UInt8} {d : Bool} {n : Nat} {g : Bool} (r : Row g 5 n h a0 l) (hb : h.base ≤ n) (hn : n ≤ h.next) (hl : l.length ≤ 100000) (hv : v.length ≤ 100000) {K : Str → H → Prop}
    (hk : ∀ h', Low n h h' → K (Str.of (l ++ (cond d 1 0 :: v))) h') : s40G J0 a0 (Str.of v) d h K := by
  unfold s40G
  refine jd_intro (fun v' d' h' => v' = (a0, .str (Str.of v), .int .u8 (bI (cond d 1 0)), ()) ∧ d' = [] ∧ h' = h) (fun j hj => ?_) ?_
  · cases d
    · exact hj _ _ _ ⟨rfl, rfl, rfl⟩
    · exact hj _ _ _ ⟨rfl, rfl, rfl⟩
  · rintro v' d' h' ⟨rfl, rfl, rfl⟩
    simp only [asI_int]
    refine ap_lit (m := [cond d 1 0]) r hb hn (by simp [mostRoom]; omega) fun v1 h1 r1 l1 => ?_
    refine ap_str r1 (by rw [l1.base]; exact hb) (by have := l1.next; omega) (by simp [mostRoom]; omega) fun v2 h2 r2 l2 => ?_
    rw [r2.str]
    show K _ h2
    have := hk h2 (l1.trans l2)
    rw [List.append_assoc]; exact this
/-! ## the highest byte first -/
theorem t81 {h : H} {x : Nat} (hb : h.base ≤ h.next) {K : AV → H → Prop} (hk : ∀ v h', Row true 5 h.next h' v (be 8 x) → Low h.next h h' → K v h') : s81G J0 (Int.ofNat x) h K := by
  unfold s81G
  refine lp_rule (fun n v d h' => ∃ i row done, v = (.int .u64 (Int.ofNat x), row, .int .i64 (Int.ofNat i), ()) ∧ d = [] ∧ i ≤ 8 ∧ n = 8 - i ∧ done.length = i ∧ done ++ be (8 - i) x = be 8 x ∧ Row true 5 h.next h' row done ∧ Low h.next h h') ?_ (n := 8) (by unfold fuel; omega) ⟨0, .nils, [], rfl, rfl, by omega, rfl, rfl, rfl, Row.nil _ _ _ _, Low.refl _ _⟩
  rintro n self v d h' ⟨i, row, done, rfl, rfl, hi, rfl, hdl, hd, hr, hL⟩ hs
  simp only [asI_int, fI_eq, fB_eq]
  refine br_intro (fun hc => ?_) (fun hc => ?_)
  · have hi : i < 8 := lt_of_ltI hc
    obtain ⟨k, hk8⟩ : ∃ k, 8 - i = k + 1 := ⟨7 - i, by omega⟩
    have e8 : wrapF .i64 (Int.mul (Int.ofNat 8) (Int.ofNat i)) = Int.ofNat (8 * i) := wrapF_nat (kk := .i64) (m := 8 * i) (by show 8 * i < 9223372036854775808; omega)
    have e9 : wrapF .i64 (Int.sub (Int.ofNat 56) (Int.ofNat (8 * i))) = Int.ofNat (8 * k) := by
      rw [sub_nat (by omega), wrapF_nat (kk := .i64) (by show 56 - 8 * i < 9223372036854775808; omega)]
      congr 1; omega
    rw [e8, e9, asNat_int, nmin_le (by show 8 * k ≤ 64; omega), shr_nat, ofNat_bI]
    refine ap_lit (m := [UInt8.ofNat (x >>> (8 * k))]) hr (by rw [hL.base]; exact hb) hL.next (by simp [mostRoom]; omega) fun v1 h1 r1 l1 => ?_
    rw [add_one i (by omega)]
    refine hs (8 - (i + 1)) _ _ _ (by omega) ⟨i + 1, v1, done ++ [UInt8.ofNat (x >>> (8 * k))], rfl, rfl, by omega, rfl, by simp [hdl], ?_, r1, hL.trans l1⟩
    rw [← hd, hk8, show 8 - (i + 1) = k by omega]
    simp [be]
  · have hi : 8 ≤ i := ge_of_ltI hc
    have e : i = 8 := by omega
    subst e
    refine hk _ _ ?_ hL
    rw [← hd]; simpa [be] using hr
/-! ## a text that is built up -/
/-- at place id a builder stands that holds l -/
def Bld (h : H) (id : Nat) (l : List UInt8) : Prop := ∃ p v, h.get id = .cells false 81 [p, v] ∧ (p = .nilp ∨ p = .ptr id 0) ∧ Row false 5 (id + 1) h v l ∧ id < h.next ∧ h.base ≤ id
theorem Bld.low {h h' : H} {id : Nat} {l : List UInt8} (b : Bld h id l) {m : Nat} (lo : Low m h h') (hm : h.next ≤ m) : Bld h' id l := by
  obtain ⟨p, v, h1, h2, h3, h4, h5⟩ := b
  exact ⟨p, v, by rw [lo.get id (by omega)]; exact h1, h2, h3.low lo hm, by have := lo.next; omega, by rw [lo.base]; exact h5⟩
theorem Bld.new (h : H) (hb : h.base ≤ h.next) : Bld (pushed h (.cells false 81 [.nilp, .nils])) h.next [] := ⟨.nilp, .nils, by rw [pushed_get, if_pos rfl], .inl rfl, Row.nil _ _ _ _, by rw [pushed_next]; omega, by rw [pushed_base]; exact hb⟩
theorem t72 {h : H} {id : Nat} {l : List UInt8} (b : Bld h id l) {K : H → Prop} (hk : ∀ h', Bld h' id l → Low id h h' → h'.next = h.next → K h') : s72G J0 g83 (.ptr id 0) h K := by
  obtain ⟨p, v, h1, h2, h3, h4, h5⟩ := b
  unfold s72G
  rw [okNil_ptr, faK_ptr, ldV_at h1 (v := p) rfl]
  have out : ∀ q : AV, (q = .nilp ∨ q = .ptr id 0) → Bld (putted h id (.cells false 81 [q, v])) id l := fun q hq => by
    have lo : Low (id + 1) h h := Low.refl _ _
    refine ⟨q, v, by rw [putted_get _ _ _ h4, if_pos rfl], hq, ?_, h4, h5⟩
    rcases h3 with r | ⟨i, ex, sg, r1, r2, r3, r4, r5⟩
    · exact .inl r
    · exact .inr ⟨i, ex, sg, r1, r2, r3, by rw [putted_get _ _ _ h4, if_neg (by omega)]; exact r4, r5⟩
  rcases h2 with rfl | rfl
  · show op' (aToU (.ptr id 0) h) _
    have e1 : aToU (.ptr id 0) h = some (.ptr id 0) := by unfold aToU; simp only [h1]; rfl
    have e2 : aOfU 81 2 (.ptr id 0) h = some (.ptr id 0) := by unfold aOfU; simp only [h1]; rfl
    rw [e1, op'_some]
    show op' (aOfU 81 2 (.ptr id 0) h) _
    rw [e2, op'_some, okNil_ptr, faK_ptr, stV_at h1 rfl (cs' := [.ptr id 0, v]) rfl h4 h5]
    exact hk _ (out _ (.inr rfl)) (Low.put _ h4 (Nat.le_refl _)) rfl
  · show okNil (.ptr id 0) _
    rw [okNil_ptr, faK_ptr, ldV_at h1 (v := .ptr id 0) rfl]
    have e3 : aBin ty .neq 79 false (.ptr id 0) (.ptr id 0) = some (.bool false) := by
      have : aBin ty .neq 79 false (.ptr id 0) (.ptr id 0) = (match Nat.beq id id with | true => some (AV.bool (Bool.not (Nat.beq 0 0))) | false => none) := by
        show Option.map _ (eqAV ty 20 79 _ _) = _
        unfold eqAV
        show Option.map _ (match Bool.and true (Bool.and true (Nat.beq id id)) with | true => some (Nat.beq 0 0) | false => none) = _
        cases Nat.beq id id <;> rfl
      rw [this, (Nat.beq_eq ▸ rfl : Nat.beq id id = true)]; rfl
    rw [e3]
    exact hk h ⟨.ptr id 0, v, h1, .inr rfl, h3, h4, h5⟩ (Low.refl _ _) rfl
/-- something more behind it -/
theorem bld_app {h : H} {id : Nat} {l m : List UInt8} {p v : AV} (h1 : h.get id = .cells false 81 [p, v]) (h2 : p = .nilp ∨ p = .ptr id 0) (h3 : Row false 5 (id + 1) h v l) (h4 : id < h.next) (h5 : h.base ≤ id) (hl : l.length + m.length ≤ mostRoom)
    {K : H → Prop} {kd : Kd} {x : AV} (hx : ∀ f : Str → Prop, srcB kd x h f = f (Str.of m)) (hk : ∀ h', Bld h' id (l ++ m) → Low id h h' → K h') : apB kd 5 v x h fun v' h1 => okNil (.ptr id 0) (faK 1 (.ptr id 0) fun p => stV p v' h1 K) := by
  refine apB_row h3 (by omega) (by omega) hx hl fun v' h' r lo => ?_
  have g : h'.get id = .cells false 81 [p, v] := by rw [lo.get id (by omega)]; exact h1
  have h4' : id < h'.next := by have := lo.next; omega
  have one : isOne v' = true := by
    rcases r with ⟨rfl, _⟩ | ⟨i, ex, sg, rfl, _⟩ <;> rfl
  rw [okNil_ptr, faK_ptr, stV_at g one (cs' := [p, v']) rfl h4' (by rw [lo.base]; exact h5)]
  refine hk _ ⟨p, v', by rw [putted_get _ _ _ h4', if_pos rfl], h2, ?_, h4', by rw [putted_base, lo.base]; exact h5⟩ ((lo.down (by omega)).trans (Low.put _ h4' (Nat.le_refl _)))
  rcases r with r | ⟨i, ex, sg, r1, r2, r3, r4, r5⟩
  · exact .inl r
  · exact .inr ⟨i, ex, sg, r1, r2, r3, by rw [putted_get _ _ _ h4', if_neg (by omega)]; exact r4, r5⟩
theorem t87 {h : H} {id : Nat} {l : List UInt8} {c : UInt8} (b : Bld h id l) (hl : l.length ≤ 100000) {K : AV → H → Prop} (hk : ∀ h', Bld h' id (l ++ [c]) → Low id h h' → K .nili h') : s87G J0 (s72G J0 g83) (.ptr id 0) (bI c) h K := by
  unfold s87G
  refine t72 b fun h1 b1 l1 n1 => ?_
  obtain ⟨p, v, q1, q2, q3, q4, q5⟩ := b1
  rw [okNil_ptr, faK_ptr, ldV_at q1 (v := v) rfl]
  show op' (asRow true 5 ([c].map fun c => AV.int .u8 (bI c))) _
  rw [asRow_map, op'_some, pushK_is]
  have lp := Low.push h1.next h1 (.bytes 5 0 false (Str.of [c])) (Nat.le_refl _)
  have r1 : Row false 5 (id + 1) (pushed h1 (.bytes 5 0 false (Str.of [c]))) (.slice h1.next 0 [c].length [c].length 1 true) [c] := Row.push false true (by omega) (fun _ => rfl)
  exact bld_app (m := [c]) (by rw [lp.get id q4]; exact q1) q2 (q3.low lp (Nat.le_refl _)) (by rw [pushed_next]; omega) (by rw [pushed_base]; exact q5) (by simp [mostRoom]; omega) (fun f => srcB_row (t := 5) r1 f) fun h' b' l' => hk h' b' (l1.trans ((lp.down (by omega)).trans l'))
theorem t49 {h : H} {id : Nat} {l m : List UInt8} (b : Bld h id l) (hl : l.length ≤ 100000) (hm : m.length ≤ 100000) {K : Int → AV → H → Prop} (hk : ∀ h', Bld h' id (l ++ m) → Low id h h' → K (Int.ofNat m.length) .nili h') : s49G J0 (s72G J0 g83) (.ptr id 0) (Str.of m) h K := by
  unfold s49G
  refine t72 b fun h1 b1 l1 n1 => ?_
  obtain ⟨p, v, q1, q2, q3, q4, q5⟩ := b1
  rw [okNil_ptr, faK_ptr, ldV_at q1 (v := v) rfl]
  exact bld_app (m := m) q1 q2 q3 q4 q5 (by simp [mostRoom]; omega) (fun f => rfl) fun h' b' l' => hk h' b' (l1.trans l')
theorem t52 {h : H} {id : Nat} {l : List UInt8} (b : Bld h id l) (h0 : l ≠ []) (hl : l.length ≤ 100000) {K : Str → H → Prop} (hk : ∀ h', Low id h h' → K (Str.of l) h') : s52G J0 (.ptr id 0) h K := by
  obtain ⟨p, v, q1, q2, q3, q4, q5⟩ := b
  unfold s52G
  rw [okNil_ptr, faK_ptr, ldV_at q1 (v := v) rfl]
  rcases q3 with ⟨_, r⟩ | ⟨i, ex, sg, rfl, r2, r3, r4, r5⟩
  · exact absurd r h0
  have hp : 0 < l.length := List.length_pos_iff.2 h0
  have e1 : aSliceData (.slice i 0 l.length l.length 1 ex) = some (.ptr i 0) := by
    show (Bool.rec none (some (AV.ptr i 0)) (Nat.blt 0 l.length) : Option AV) = _
    rw [(blt_iff _ _).2 hp]
  rw [e1]
  show okNil (.ptr id 0) _
  rw [okNil_ptr, faK_ptr, ldV_at q1 (v := .slice i 0 l.length l.length 1 ex) rfl]
  show op2 (aUnStr 5 (.ptr i 0) (.int .i64 (Int.ofNat l.length)) h) _
  obtain rfl := r5 rfl
  have e2 : aUnStr 5 (.ptr i 0) (.int .i64 (Int.ofNat l.length)) h = some (.str (Str.of l), putted h i (.bytes 5 (Nat.add 0 l.length) false (Str.of l))) := by
    have n0 : Nat.beq l.length 0 = false := by
      cases hb : Nat.beq l.length 0
      · rfl
      · rw [Nat.beq_eq] at hb; omega
    have hput : h.put i (.bytes 5 (Nat.add 0 l.length) false (Str.of l)) = some (putted h i (.bytes 5 (Nat.add 0 l.length) false (Str.of l))) := by
      rw [H.put_eq, if_pos ⟨r3, by omega⟩]; rfl
    have hsub : (Str.of l).sub 0 (Nat.add 0 l.length) = Str.of l := by
      show (Str.of l).sub 0 (0 + l.length) = _
      rw [Str.sub_of l 0 _ (by omega) (by omega)]; congr 1; simp
    have b1 : Nat.ble (Nat.add 0 l.length) 0 = false := by
      cases hb : Nat.ble (Nat.add 0 l.length) 0
      · rfl
      · rw [ble_iff] at hb; have : 0 + l.length ≤ 0 := hb; omega
    have b2 : Nat.ble (Nat.add 0 l.length) (Str.of l).len = true := by
      rw [ble_iff]; show 0 + l.length ≤ l.length; omega
    have b3 : Nat.ble l.length 9223372036854775807 = true := by rw [ble_iff]; omega
    unfold aUnStr
    simp only [r4, n0, b1, b2, b3, hput, hsub]
    rfl
  rw [e2]
  show K (Str.of l) _
  exact hk _ (Low.put _ r3 (by omega))
/-- so many bytes of a number, the highest first -/
theorem t79 {h : H} {id x N : Nat} {l : List UInt8} (b : Bld h id l) (hl : l.length ≤ 1000) (hN : N ≤ 8) {K : H → Prop} (hk : ∀ h', Bld h' id (l ++ be N x) → Low id h h' → K h') : s79G J0 (s87G J0 (s72G J0 g83)) (.ptr id 0) (Int.ofNat x) (Int.ofNat N) h K := by
  unfold s79G
  rw [fI_eq]
  have w1 : ∀ k : Nat, k ≤ 8 → wrapF .i64 (Int.sub (Int.ofNat k) (Int.ofNat 1)) = Int.sub (Int.ofNat k) (Int.ofNat 1) := fun k hk => by
    have e : Int.sub (Int.ofNat k) (Int.ofNat 1) = (k : Int) - 1 := rfl
    rw [e]; exact wrap_i64_in (by omega) (by omega)
  rw [w1 N hN]
  refine lp_rule (fun n v d h' => ∃ done, v = (.ptr id 0, .int .u64 (Int.ofNat x), .int .i64 (Int.sub (Int.ofNat n) (Int.ofNat 1)), ()) ∧ d = [] ∧ n ≤ 8 ∧ done.length + n ≤ 1000 + 8 ∧ done ++ be n x = l ++ be N x ∧ Bld h' id done ∧ Low id h h') ?_ (n := N) (by unfold fuel; omega) ⟨l, rfl, rfl, hN, by omega, rfl, b, Low.refl _ _⟩
  rintro n self v d h' ⟨done, rfl, rfl, hn, hdl, hd, hb, hL⟩ hs
  simp only [asI_int, fI_eq, fB_eq]
  cases n with
  | zero =>
    refine br_intro (fun hc => ?_) (fun hc => ?_)
    · have := ltI_false.1 (not_true.1 hc)
      have h2 : (0 : Int) ≤ (0 : Int) - 1 := this
      omega
    · refine hk h' ?_ hL
      rw [← hd]; simpa [be] using hb
  | succ n =>
    have e1 : Int.sub (Int.ofNat (n + 1)) (Int.ofNat 1) = Int.ofNat n := by
      rw [sub_nat (by omega)]; rfl
    rw [e1]
    refine br_intro (fun hc => ?_) (fun hc => ?_)
    · have e8 : wrapF .i64 (Int.mul (Int.ofNat 8) (Int.ofNat n)) = Int.ofNat (8 * n) := wrapF_nat (kk := .i64) (m := 8 * n) (by show 8 * n < 9223372036854775808; omega)
      rw [e8, asNat_int, nmin_le (by show 8 * n ≤ 64; omega), shr_nat, ofNat_bI]
      refine t87 hb (by omega) fun h1 b1 l1 => ?_
      rw [w1 n (by omega)]
      refine hs n _ _ _ (by omega) ⟨done ++ [UInt8.ofNat (x >>> (8 * n))], rfl, rfl, by omega, by simp; omega, ?_, b1, hL.trans l1⟩
      rw [← hd]; simp [be]
    · have := ltI_true.1 (not_false'.1 hc)
      have h2 : (n : Int) < 0 := this
      omega
end Go.Proofs.Ytlbigopkplckaaa
