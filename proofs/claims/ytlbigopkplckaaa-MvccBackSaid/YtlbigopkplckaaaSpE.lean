/- The functions of the layer of versions, each told by what it answers: what is put, laid and lifted. No condition. -/
import Derived.Test.YtlbigopkplckaaaSpD
namespace Go.Proofs.Ytlbigopkplckaaa
open Go Go.Am
set_option linter.all false
set_option maxRecDepth 100000
noncomputable def pMid : Str → Str → H → (Str → H → Prop) → Prop := fun kd s h k => ∃ (c : UInt8) (l : List UInt8), kd = ⟨1, c.toNat⟩ ∧ s = Str.of l ∧ l.length ≤ 128 ∧ k (Str.of (c :: mid l)) h
noncomputable def pMidR : Str → H → (Str → H → Prop) → Prop := fun s h k => ∃ l : List UInt8, s = Str.of l ∧ l.length ≤ 128 ∧ k (Str.of (mid l)) h
noncomputable def pFlag : Bool → Str → H → (Str → H → Prop) → Prop := fun d s h k => ∃ v : List UInt8, s = Str.of v ∧ v.length ≤ 100000 ∧ k (Str.of (flagB d v)) h
noncomputable def pEnd0 : AV → Str → Bool → H → (Str → H → Prop) → Prop := fun a s d h k => ∃ v : List UInt8, a = .nils ∧ s = Str.of v ∧ v.length ≤ 100000 ∧ k (Str.of (cond d 1 0 :: v)) h
noncomputable def pNum : Int → H → (Str → H → Prop) → Prop := fun a h k => ∃ n : Nat, a = Int.ofNat n ∧ n < 9223372036854775808 ∧ k (Str.of (uv n)) h
def noWr : AV := wrAV ⟨0, 0⟩ ⟨0, 0⟩ false
noncomputable def putV (key : List UInt8) (w l t : Int) (val : List UInt8) (del : Bool) : AV :=
  cond (okC (Str.of key) w l t (Str.of val) del) (wrAV (Str.of (99 :: (mid key ++ stB w l t))) (Str.of (flagB del val)) false) noWr
noncomputable def liftV (key : List UInt8) : AV := cond (usr (Str.of key)) (wrAV (Str.of (105 :: mid key)) ⟨0, 0⟩ true) noWr
def layB (n m bw bl bt : Int) (anchor : List UInt8) (w l t : Int) (val : List UInt8) (del : Bool) : List UInt8 :=
  uv n.toNat ++ (uv m.toNat ++ (stB bw bl bt ++ (stB w l t ++ (uv anchor.length ++ (anchor ++ flagB del val)))))
noncomputable def layV (key : List UInt8) (n m bw bl bt : Int) (anchor : List UInt8) (w l t : Int) (val : List UInt8) (del : Bool) : AV :=
  cond (okI (Str.of key) n m bw bl bt (Str.of anchor) w l t (Str.of val) del) (wrAV (Str.of (105 :: mid key)) (Str.of (layB n m bw bl bt anchor w l t val del)) false) noWr
theorem flag_end {d : Bool} {v : List UInt8} (h : d = true → v = []) : flagB d v = cond d 1 0 :: v := by
  cases d
  · rfl
  · rw [h rfl]; rfl
theorem mid_len (l : List UInt8) : (mid l).length ≤ 2 * l.length + 2 := by
  have := midP_len l
  simp only [mid, List.length_append, List.length_cons, List.length_nil]; omega
theorem flag_len (d : Bool) (v : List UInt8) : (flagB d v).length ≤ v.length + 1 := by
  unfold flagB; split <;> simp
section
variable {KA : AV → Int → Prop}
theorem tEnd0 {d : Bool} {v : List UInt8} (hv : v.length ≤ 100000) {K : Str → Prop} (hk : ∀ r, r = Str.of (cond d 1 0 :: v) → K r) : s40G J0 .nils (Str.of v) d H0 fun r _ => K r :=
  t40 (g := true) (n := 0) (l := []) (Row.nil _ _ _ _) (Nat.zero_le _) (Nat.zero_le _) (by simp) hv fun _ _ => hk _ rfl
theorem t7 {key val : List UInt8} {w l t : Int} {del : Bool} (hk : ∀ r e, r = putV key w l t val del → e = bad (okC (Str.of key) w l t (Str.of val) del) → KA r e) : s7G J0 pChC pMid pSt pFlag (ceAV (Str.of key) w l t (Str.of val) del) H0 fun r e _ => KA r e := by
  unfold s7G
  simp only [fS_eq]
  conv => whnf
  refine ⟨_, _, _, _, _, _, rfl, ?_⟩
  conv => whnf
  refine rec_intro (fun hb => ?_) (fun hb => ?_)
  · have hc : okC (Str.of key) w l t (Str.of val) del = false := by simpa [eqI_bad'] using hb
    conv => whnf
    refine hk _ _ ?_ rfl
    rw [putV, hc]; rfl
  · have hc : okC (Str.of key) w l t (Str.of val) del = true := by simpa [eqI_bad'] using hb
    have hc' := hc
    simp only [okC, Bool.and_eq_true] at hc'
    obtain ⟨c1, c2, c3⟩ := hc'
    have u1 := usr_iff c1
    have u2 := wor_iff c2
    have m1 := mid_len key
    conv => whnf
    refine ⟨99, key, rfl, rfl, u1.2, ?_⟩
    refine ck_intro (reads_self rfl (by simp [AV.same])) (ck_intro (reads_self rfl (by simp [AV.same])) (ck_intro (reads_self rfl (by simp [AV.same, AV.same.sames])) ?_))
    refine ⟨w, l, t, rfl, c3, ?_⟩
    dsimp only
    rw [Str.cat_of]
    refine ck_intro (reads_self rfl (by simp [AV.same])) (ck_intro (reads_self rfl (by simp [AV.same])) (ck_intro ?_ ?_))
    · rw [ble_iff]; show List.length _ + List.length _ ≤ _; simp only [List.length_cons, stB_len]; omega
    refine ⟨val, rfl, by omega, ?_⟩
    conv => whnf
    refine hk _ _ ?_ ?_
    · rw [putV, hc]; rfl
    · rw [hc]; rfl
theorem t12 {key val : List UInt8} {w l t : Int} {del : Bool} (hk : ∀ r e, r = putV key w l t val del → e = bad (okC (Str.of key) w l t (Str.of val) del) → KA r e) : s12G J0 pChC pMidR pSt pEnd0 (ceAV (Str.of key) w l t (Str.of val) del) H0 fun r e _ => KA r e := by
  unfold s12G
  simp only [fS_eq]
  conv => whnf
  refine ⟨_, _, _, _, _, _, rfl, ?_⟩
  conv => whnf
  refine rec_intro (fun hb => ?_) (fun hb => ?_)
  · have hc : okC (Str.of key) w l t (Str.of val) del = false := by simpa [eqI_bad'] using hb
    conv => whnf
    refine hk _ _ ?_ rfl
    rw [putV, hc]; rfl
  · have hc : okC (Str.of key) w l t (Str.of val) del = true := by simpa [eqI_bad'] using hb
    have hc' := hc
    simp only [okC, Bool.and_eq_true] at hc'
    obtain ⟨c1, c2, c3⟩ := hc'
    have u1 := usr_iff c1
    have u2 := wor_iff c2
    have m1 := mid_len key
    conv => whnf
    refine ⟨key, rfl, u1.2, ?_⟩
    dsimp only
    rw [show ({ len := 1, val := 99 } : Str) = Str.of [99] from rfl, Str.cat_of]
    refine ck_intro (reads_self rfl (by simp [AV.same])) (ck_intro (reads_self rfl (by simp [AV.same])) (ck_intro (reads_self rfl (by simp [AV.same, AV.same.sames])) (ck_intro ?_ ?_)))
    · rw [ble_iff]; show 1 + List.length _ ≤ _; omega
    refine ⟨w, l, t, rfl, c3, ?_⟩
    dsimp only
    rw [Str.cat_of]
    refine ck_intro (reads_self rfl (by simp [AV.same])) (ck_intro (reads_self rfl (by simp [AV.same])) (ck_intro ?_ ?_))
    · rw [ble_iff]; show List.length _ + List.length _ ≤ _; simp only [List.length_append, List.length_cons, List.length_nil, stB_len]; omega
    refine ⟨val, rfl, rfl, by omega, ?_⟩
    conv => whnf
    refine hk _ _ ?_ ?_
    · rw [putV, hc, flag_end u2.2]; rfl
    · rw [hc]; rfl
theorem t20 {key : List UInt8} (hk : ∀ r e, r = liftV key → e = bad (usr (Str.of key)) → KA r e) : s20G J0 pMid pUsr (Str.of key) H0 fun r e _ => KA r e := by
  unfold s20G
  conv => whnf
  refine rec_intro (fun hb => ?_) (fun hb => ?_)
  · have hc : usr (Str.of key) = false := by simpa using hb
    conv => whnf
    refine hk _ _ ?_ ?_
    · rw [liftV, hc]; rfl
    · rw [hc]; rfl
  · have hc : usr (Str.of key) = true := by simpa using hb
    conv => whnf
    refine ⟨105, key, rfl, rfl, (usr_iff hc).2, ?_⟩
    conv => whnf
    refine hk _ _ ?_ ?_
    · rw [liftV, hc]; rfl
    · rw [hc]; rfl
theorem t21 {key : List UInt8} (hk : ∀ r e, r = liftV key → e = bad (usr (Str.of key)) → KA r e) : s21G J0 pMidR pUsr (Str.of key) H0 fun r e _ => KA r e := by
  unfold s21G
  simp only [fS_eq]
  conv => whnf
  refine rec_intro (fun hb => ?_) (fun hb => ?_)
  · have hc : usr (Str.of key) = false := by simpa using hb
    conv => whnf
    refine hk _ _ ?_ ?_
    · rw [liftV, hc]; rfl
    · rw [hc]; rfl
  · have hc : usr (Str.of key) = true := by simpa using hb
    have u1 := usr_iff hc
    have m1 := mid_len key
    conv => whnf
    refine ⟨key, rfl, u1.2, ?_⟩
    dsimp only
    rw [show ({ len := 1, val := 105 } : Str) = Str.of [105] from rfl, Str.cat_of]
    refine ck_intro ?_ ?_
    · rw [ble_iff]; show 1 + List.length _ ≤ _; omega
    conv => whnf
    refine hk _ _ ?_ ?_
    · rw [liftV, hc]; rfl
    · rw [hc]; rfl
theorem wid {n : Int} (h0 : 0 ≤ n) (h1 : n < 9223372036854775808) : wrapF .i64 n = Int.ofNat n.toNat := by
  rw [wrap_i64_in (by omega) h1]; exact toNat_of h0
theorem wid_u {n : Int} (h0 : 0 ≤ n) (h1 : n < 9223372036854775808) : wrapF .u64 n = Int.ofNat n.toNat := by
  rw [toNat_of h0]; exact wrapF_nat (kk := .u64) (by show n.toNat < 18446744073709551616; omega)
theorem t13 {key anchor val : List UInt8} {n m bw bl bt w l t : Int} {del : Bool} (hk : ∀ r e, r = layV key n m bw bl bt anchor w l t val del → e = bad (okI (Str.of key) n m bw bl bt (Str.of anchor) w l t (Str.of val) del) → KA r e) :
    s13G J0 pChI pMid pSt pFlag pNum (inAV (Str.of key) n m bw bl bt (Str.of anchor) w l t (Str.of val) del) H0 fun r e _ => KA r e := by
  unfold s13G
  simp only [fS_eq, fI_eq]
  conv => whnf
  refine ⟨_, _, _, _, _, _, _, _, _, _, _, _, rfl, ?_⟩
  conv => whnf
  refine rec_intro (fun hb => ?_) (fun hb => ?_)
  · have hc : okI (Str.of key) n m bw bl bt (Str.of anchor) w l t (Str.of val) del = false := by simpa [eqI_bad'] using hb
    conv => whnf
    refine hk _ _ ?_ rfl
    rw [layV, hc]; rfl
  · have hc : okI (Str.of key) n m bw bl bt (Str.of anchor) w l t (Str.of val) del = true := by simpa [eqI_bad'] using hb
    have hc' := hc
    simp only [okI, Bool.and_eq_true] at hc'
    obtain ⟨c0, c1, c2, c3, c4, c5, _⟩ := hc'
    have k0 := okT_iff c0
    have u1 := usr_iff c1
    have u2 := usr_iff c2
    have u3 := wor_iff c3
    have m1 := mid_len key
    have f1 := flag_len del val
    have v1 := uv_len 9 n.toNat (Nat.lt_trans (m := 9223372036854775808) (by omega) (by decide))
    have v2 := uv_len 9 m.toNat (Nat.lt_trans (m := 9223372036854775808) (by omega) (by decide))
    have v3 := uv_len 9 anchor.length (Nat.lt_trans (m := 9223372036854775808) (by omega) (by decide))
    conv => whnf
    refine ⟨n.toNat, wid k0.1 (by omega), by omega, ?_⟩
    iterate 5 refine ck_intro (reads_self rfl (by simp [AV.same, AV.same.sames])) ?_
    refine ck_intro (reads_self rfl (by simp [AV.same, AV.same.sames])) (ck_intro (reads_self rfl (by simp [AV.same])) ?_)
    refine ⟨m.toNat, wid (by omega) (by omega), by omega, ?_⟩
    dsimp only
    rw [Str.cat_of]
    iterate 6 refine ck_intro (reads_self rfl (by simp [AV.same, AV.same.sames])) ?_
    refine ck_intro ?_ ?_
    · rw [ble_iff]; show List.length _ + List.length _ ≤ _; omega
    refine ⟨bw, bl, bt, rfl, c4, ?_⟩
    dsimp only
    rw [Str.cat_of]
    iterate 5 refine ck_intro (reads_self rfl (by simp [AV.same, AV.same.sames])) ?_
    refine ck_intro ?_ ?_
    · rw [ble_iff]; show List.length _ + List.length _ ≤ _; simp only [List.length_append, stB_len]; omega
    refine ⟨w, l, t, rfl, c5, ?_⟩
    dsimp only
    rw [Str.cat_of]
    iterate 4 refine ck_intro (reads_self rfl (by simp [AV.same, AV.same.sames])) ?_
    refine ck_intro ?_ ?_
    · rw [ble_iff]; show List.length _ + List.length _ ≤ _; simp only [List.length_append, stB_len]; omega
    refine ⟨anchor.length, rfl, by omega, ?_⟩
    dsimp only
    rw [Str.cat_of, Str.cat_of]
    iterate 3 refine ck_intro (reads_self rfl (by simp [AV.same, AV.same.sames])) ?_
    refine ck_intro ?_ (ck_intro ?_ ?_)
    · rw [ble_iff]; show List.length _ + List.length _ ≤ _; simp only [List.length_append, stB_len]; omega
    · rw [ble_iff]; show List.length _ + List.length _ ≤ _; simp only [List.length_append, stB_len]; omega
    refine ⟨val, rfl, by omega, ?_⟩
    dsimp only
    rw [Str.cat_of]
    refine ck_intro (reads_self rfl (by simp [AV.same, AV.same.sames])) (ck_intro ?_ ?_)
    · rw [ble_iff]; show List.length _ + List.length _ ≤ _; simp only [List.length_append, stB_len]; omega
    conv => whnf
    refine ⟨105, key, rfl, rfl, u1.2, ?_⟩
    conv => whnf
    refine hk _ _ ?_ ?_
    · rw [layV, hc, layB]; simp only [List.append_assoc]; rfl
    · rw [hc]; rfl
end
end Go.Proofs.Ytlbigopkplckaaa
