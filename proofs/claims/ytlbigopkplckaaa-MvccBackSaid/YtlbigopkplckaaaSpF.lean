/- The functions of the layer of versions, each told by what it answers: intents in the document's words; keys that rise. No condition. -/
import Derived.Test.YtlbigopkplckaaaSpE
namespace Go.Proofs.Ytlbigopkplckaaa
open Go Go.Am
set_option linter.all false
set_option maxRecDepth 100000
section
variable {KA : AV → Int → Prop}
theorem t14 {c42 : AV → Int → H → (AV → H → Prop) → Prop} {c40 : AV → Str → Bool → H → (Str → H → Prop) → Prop}
    (h42 : ∀ {h : H} {a0 : AV} {l : List UInt8} {x m : Nat} {g : Bool}, Row g 5 m h a0 l → x < 9223372036854775808 → l.length ≤ 100000 → h.base ≤ h.next → ∀ {K : AV → H → Prop}, (∀ v h', Row true 5 h.next h' v (l ++ uv x) → Low h.next h h' → K v h') → c42 a0 (Int.ofNat x) h K)
    (h40 : ∀ {h : H} {a0 : AV} {l v : List UInt8} {d : Bool} {n : Nat} {g : Bool}, Row g 5 n h a0 l → h.base ≤ n → n ≤ h.next → l.length ≤ 100000 → v.length ≤ 100000 → ∀ {K : Str → H → Prop}, (∀ h', Low n h h' → K (Str.of (l ++ (cond d 1 0 :: v))) h') → c40 a0 (Str.of v) d h K)
    {key anchor val : List UInt8} {n m bw bl bt w l t : Int} {del : Bool} (hk : ∀ r e, r = layV key n m bw bl bt anchor w l t val del → e = bad (okI (Str.of key) n m bw bl bt (Str.of anchor) w l t (Str.of val) del) → KA r e) :
    s14G J0 pChI pMidR pSt c40 c42 (inAV (Str.of key) n m bw bl bt (Str.of anchor) w l t (Str.of val) del) H0 fun r e _ => KA r e := by
  unfold s14G
  simp only [fS_eq, fI_eq]
  conv => whnf
  refine ⟨_, _, _, _, _, _, _, _, _, _, _, _, rfl, ?_⟩
  conv => whnf
  refine rec_intro (fun hb => ?_) (fun hb => ?_)
  · have hc : okI (Str.of key) n m bw bl bt (Str.of anchor) w l t (Str.of val) del = false := by simpa [eqI_bad'] using hb
    conv => whnf
    refine hk _ _ ?_ rfl
    rw [layV, hc]; rfl
  · have hc : okI (Str.of key) n m bw bl bt (Str.of anchor) w l t (Str.of val) del = true := by simpa [eqI_bad'] using hb
    have hc' := hc
    simp only [okI, Bool.and_eq_true] at hc'
    obtain ⟨c0, c1, c2, c3, c4, c5, _⟩ := hc'
    have k0 := okT_iff c0
    have u1 := usr_iff c1
    have u2 := usr_iff c2
    have u3 := wor_iff c3
    have m1 := mid_len key
    have f1 := flag_len del val
    have v1 := uv_len 9 n.toNat (Nat.lt_trans (m := 9223372036854775808) (by omega) (by decide))
    have v2 := uv_len 9 m.toNat (Nat.lt_trans (m := 9223372036854775808) (by omega) (by decide))
    have v3 := uv_len 9 anchor.length (Nat.lt_trans (m := 9223372036854775808) (by omega) (by decide))
    conv => whnf
    rw [wid_u k0.1 (by omega)]
    refine h42 (g := true) (l := []) (m := 0) (Row.nil _ _ _ _) (by omega) (by simp) (Nat.zero_le _) fun a1 h1 r1 l1 => ?_
    have l1 : Low 2 _ h1 := l1
    have r1 : Row true 5 2 h1 a1 _ := r1
    have g0 : h1.get 0 = .cells false 41 [.str (Str.of key), .int .i32 n, .int .i32 m, .int .i64 bw, .int .i32 bl, .int .i32 bt, .str (Str.of anchor), .int .i64 w, .int .i32 l, .int .i32 t, .str (Str.of val), .bool del] := (l1.get 0 (by decide)).trans rfl
    have g1 : h1.get 1 = .cells false 23 [.str ⟨0, 0⟩, .str ⟨0, 0⟩, .bool false] := (l1.get 1 (by decide)).trans rfl
    have n1 : 2 ≤ h1.next := l1.next
    have b1 : h1.base = 0 := l1.base
    rw [ldI_at g0 (x := m) rfl, wid_u (by omega) (by omega)]
    refine h42 r1 (by omega) (by simp; omega) (by omega) fun a2 h2 r2 l2 => ?_
    have g0 : h2.get 0 = _ := (l2.get 0 (by omega)).trans g0
    have g1 : h2.get 1 = _ := (l2.get 1 (by omega)).trans g1
    have n2 := l2.next
    have b2 : h2.base = 0 := by rw [l2.base, b1]
    have r2 := r2.down (m := 2) (by omega)
    rw [ldN_at g0 (l := [.int .i64 bw, .int .i32 bl, .int .i32 bt]) rfl]
    refine ⟨bw, bl, bt, rfl, c4, ?_⟩
    refine ap_str r2 (by omega) (by omega) (by simp [mostRoom, stB_len]; omega) fun a3 h3 r3 l3 => ?_
    have g0 : h3.get 0 = _ := (l3.get 0 (by omega)).trans g0
    have g1 : h3.get 1 = _ := (l3.get 1 (by omega)).trans g1
    have n3 := l3.next
    have b3 : h3.base = 0 := by rw [l3.base, b2]
    rw [ldN_at g0 (l := [.int .i64 w, .int .i32 l, .int .i32 t]) rfl]
    refine ⟨w, l, t, rfl, c5, ?_⟩
    refine ap_str r3 (by omega) (by omega) (by simp [mostRoom, stB_len]; omega) fun a4 h4 r4 l4 => ?_
    have g0 : h4.get 0 = _ := (l4.get 0 (by omega)).trans g0
    have g1 : h4.get 1 = _ := (l4.get 1 (by omega)).trans g1
    have n4 := l4.next
    have b4 : h4.base = 0 := by rw [l4.base, b3]
    rw [ldS_at g0 (x := Str.of anchor) rfl]
    have ea : wrapF .u64 (Int.ofNat (Str.of anchor).len) = Int.ofNat anchor.length := wrapF_nat (kk := .u64) (by show anchor.length < 18446744073709551616; omega)
    rw [ea]
    refine h42 r4 (by omega) (by simp [stB_len]; omega) (by omega) fun a5 h5 r5 l5 => ?_
    have g0 : h5.get 0 = _ := (l5.get 0 (by omega)).trans g0
    have g1 : h5.get 1 = _ := (l5.get 1 (by omega)).trans g1
    have n5 := l5.next
    have b5 : h5.base = 0 := by rw [l5.base, b4]
    have r5 := r5.down (m := 2) (by omega)
    rw [ldS_at g0 (x := Str.of anchor) rfl]
    refine ap_str r5 (by omega) (by omega) (by simp [mostRoom, stB_len]; omega) fun a6 h6 r6 l6 => ?_
    have g0 : h6.get 0 = _ := (l6.get 0 (by omega)).trans g0
    have g1 : h6.get 1 = _ := (l6.get 1 (by omega)).trans g1
    have n6 := l6.next
    have b6 : h6.base = 0 := by rw [l6.base, b5]
    rw [ldS_at g0 (x := Str.of key) rfl, ldS_at g0 (x := Str.of val) rfl, ldB_at g0 (x := del) rfl]
    refine ⟨key, rfl, u1.2, ?_⟩
    dsimp only
    rw [show ({ len := 1, val := 105 } : Str) = Str.of [105] from rfl, Str.cat_of]
    refine ck_intro (reads_self ((aLoad1_at g0).trans rfl) (by simp [AV.same])) (ck_intro (reads_self ((aLoad1_at g0).trans rfl) (by simp [AV.same])) (ck_intro ?_ ?_))
    · rw [ble_iff]; show 1 + List.length _ ≤ _; omega
    refine h40 r6 (by omega) (by omega) (by simp [stB_len]; omega) (by omega) fun h7 l7 => ?_
    have g1 : h7.get 1 = _ := (l7.get 1 (by omega)).trans g1
    have n7 := l7.next
    have b7 : h7.base = 0 := by rw [l7.base, b6]
    show stN 3 (AV.ptr 1 0) _ _ (fun h45 => ldN 3 (AV.ptr 1 0) h45 _)
    rw [st_ld g1 rfl (by omega) (by omega)]
    refine hk _ _ ?_ ?_
    · rw [layV, hc, layB, flag_end u3.2]; simp only [List.append_assoc]; rfl
    · rw [hc]; rfl
end
end Go.Proofs.Ytlbigopkplckaaa
