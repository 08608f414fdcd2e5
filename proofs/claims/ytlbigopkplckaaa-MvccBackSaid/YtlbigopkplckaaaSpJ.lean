/- The functions of the layer of versions, each told by what it answers: what is kept of a record. No condition. -/
import Derived.Test.YtlbigopkplckaaaSpI
namespace Go.Proofs.Ytlbigopkplckaaa
open Go Go.Am
set_option linter.all false
set_option maxRecDepth 100000
def keyB (ks : List (List UInt8)) : List UInt8 := ks.flatMap fun k => uv k.length ++ k
theorem keyB_snoc {ks : List (List UInt8)} {i : Nat} (h : i < ks.length) : keyB (ks.take (i + 1)) = keyB (ks.take i) ++ (uv ks[i].length ++ ks[i]) := by
  rw [List.take_succ_eq_append_getElem h]; simp only [keyB, List.flatMap_append, List.flatMap_cons, List.flatMap_nil, List.append_nil]
theorem keyB_len : ∀ {ks : List (List UInt8)}, (∀ k ∈ ks, k.length ≤ 128) → (keyB ks).length ≤ 138 * ks.length
  | [], _ => Nat.zero_le _
  | k :: ks, h => by
    have h1 := h k List.mem_cons_self
    have h2 := keyB_len (ks := ks) fun k' hk' => h k' (List.mem_cons_of_mem _ hk')
    have h3 := uv_len 9 k.length (Nat.lt_trans (m := 9223372036854775808) (by omega) (by decide))
    have e : keyB (k :: ks) = (uv k.length ++ k) ++ keyB ks := rfl
    rw [e, List.length_append, List.length_append, List.length_cons]; omega
noncomputable def endsB (st : Int) : Bool := eqI st (Int.ofNat 2) || eqI st (Int.ofNat 3)
noncomputable def keepB (st w l t : Int) (ks : List (List UInt8)) (beat pw pl pt : Int) : List UInt8 :=
  uv st.toNat ++ (uv beat.toNat ++ (stB pw pl pt ++ cond (endsB st) (stB w l t ++ (uv ks.length ++ keyB ks)) []))
noncomputable def keepV (n m st w l t : Int) (ks : List (List UInt8)) (beat pw pl pt : Int) : AV :=
  cond (eqI (knI n m st w l t ks beat pw pl pt) (Int.ofNat 0)) (wrAV (Str.of (plB n.toNat m.toNat)) (Str.of (keepB st w l t ks beat pw pl pt)) false) noWr
noncomputable def pPl : AV → H → (Str → H → Prop) → Prop := fun a h k => ∃ n m : Nat, a = txAV (Int.ofNat n) (Int.ofNat m) ∧ k (Str.of (plB n m)) h
/-- what a record that may be kept is -/
structure Kn (n m st w l t : Int) (ks : List (List UInt8)) (beat pw pl pt : Int) : Prop where
  n0 : 0 ≤ n
  n1 : n < 7
  m0 : 1 ≤ m
  m1 : m ≤ 100000
  st0 : 0 ≤ st
  st1 : st ≤ 4
  b0 : 0 ≤ beat
  b1 : beat ≤ 1099511627776
  pu : okS pw pl pt = true
  at' : endsB st = true → okS w l t = true
  len : ks.length ≤ 24
  us : ∀ (i : Nat) (h : i < ks.length), 1 ≤ ks[i].length ∧ ks[i].length ≤ 128
theorem knI_ok {n m st w l t : Int} {ks : List (List UInt8)} {beat pw pl pt : Int} (h : eqI (knI n m st w l t ks beat pw pl pt) (Int.ofNat 0) = true) : Kn n m st w l t ks beat pw pl pt ∧ knI n m st w l t ks beat pw pl pt = 0 := by
  have hz : knI n m st w l t ks beat pw pl pt = 0 := eqI_true.1 h
  unfold knI at h
  cases hc : eqI (chkR n m st w l t ks beat pw pl pt) (Int.ofNat 0) with
  | false => rw [hc] at h; have h : eqI (chkR n m st w l t ks beat pw pl pt) (Int.ofNat 0) = true := h; rw [hc] at h; cases h
  | true =>
    rw [hc] at h
    have h : eqI (bad (allUB ks)) (Int.ofNat 0) = true := h
    rw [eqI_bad] at h
    have ha := of_allU h
    obtain ⟨c1, c2⟩ := chk24 hc
    simp only [okR, Bool.and_eq_true, Bool.not_eq_true'] at c2
    obtain ⟨c2, c3, c4, c5, c6⟩ := c2
    have k := okT_iff c2
    have c3 : (0 : Int) ≤ beat := ltI_false.1 c3
    have c4 : beat ≤ (1099511627776 : Int) := ltI_false.1 c4
    have hst : 0 ≤ st ∧ st ≤ 4 ∧ (endsB st = true → okS w l t = true) := by
      unfold endsB
      cases e1 : eqI st (Int.ofNat 1) <;> cases e4 : eqI st (Int.ofNat 4) <;> cases e2 : eqI st (Int.ofNat 2) <;> cases e3 : eqI st (Int.ofNat 3) <;>
        rw [e1, e4, e2, e3] at c6 <;> simp only [eqI_true, eqI_false] at e1 e2 e3 e4 <;>
        simp_all
    exact ⟨⟨k.1, k.2.1, k.2.2.1, k.2.2.2, hst.1, hst.2.1, c3, c4, c5, hst.2.2, c1, fun i hi => usr_iff (ha i hi)⟩, hz⟩
theorem keys_len {ks : List (List UInt8)} (us : ∀ (i : Nat) (h : i < ks.length), 1 ≤ ks[i].length ∧ ks[i].length ≤ 128) (i : Nat) : (keyB (ks.take i)).length ≤ 138 * ks.length := by
  have h := keyB_len (ks := ks.take i) fun k hk => by
    obtain ⟨j, hj, rfl⟩ := List.getElem_of_mem (List.mem_of_mem_take hk)
    exact (us j hj).2
  have h2 : (ks.take i).length ≤ ks.length := by rw [List.length_take]; omega
  omega
section
variable {KA : AV → Int → Prop}
theorem t18 {h0 : H} {v : AV} {ks : List (List UInt8)} (q : KV h0 v ks) {n m st w l t beat pw pl pt : Int}
    (hk : ∀ r e, r = keepV n m st w l t ks beat pw pl pt → e = knI n m st w l t ks beat pw pl pt → KA r e) :
    s18G J0 pSt pNum pKn (s49G J0 (s72G J0 g83)) pEnds pPl (s52G J0) (recAV n m st w l t v beat pw pl pt) h0 fun r e _ => KA r e := by
  unfold s18G
  show Go.Am.asAgg (.agg _) _
  rw [asAgg_agg]
  refine push_out _ _ _ fun h1 lo1 g0 n1 => ?_
  refine push_out _ _ _ fun h2 lo2 g1 n2 => ?_
  have g0 := (lo2.get h0.next (by omega)).trans g0
  have b2 : h2.base = h0.next := by rw [lo2.base, lo1.base, q.full]
  have sb := (q.sub.low lo1 (Nat.le_refl _)).low lo2 (by omega)
  rw [ldN_at g0 (l := [.int .i32 n, .int .i32 m, .int .u8 st, .int .i64 w, .int .i32 l, .int .i32 t, v, .int .i64 beat, .int .i64 pw, .int .i32 pl, .int .i32 pt]) rfl]
  refine ⟨n, m, st, w, l, t, v, beat, pw, pl, pt, h0, ks, rfl, q, sb, ?_⟩
  dsimp only
  rw [fB_eq]
  cases hc : eqI (knI n m st w l t ks beat pw pl pt) (Int.ofNat 0) with
  | false =>
    rw [Bool.not_false, br_t, st_ld g1 rfl (by omega) (by omega)]
    refine hk _ _ ?_ rfl
    rw [keepV, hc]; rfl
  | true =>
    obtain ⟨kn, kz⟩ := knI_ok hc
    have v1 := uv_len 9 st.toNat (Nat.lt_trans (m := 9223372036854775808) (by have := kn.st1; omega) (by decide))
    have v2 := uv_len 9 beat.toNat (Nat.lt_trans (m := 9223372036854775808) (by have := kn.b1; omega) (by decide))
    have v3 := uv_len 9 ks.length (Nat.lt_trans (m := 9223372036854775808) (by have := kn.len; omega) (by decide))
    have kl := keys_len kn.us
    have klen := kn.len
    rw [Bool.not_true, br_f]
    refine push_out _ _ _ fun h3 lo3 g2 n3 => ?_
    have g0 := (lo3.get h0.next (by omega)).trans g0
    have g1 := (lo3.get h1.next (by omega)).trans g1
    have sb := sb.low lo3 (by omega)
    have b3 : h3.base = h0.next := by rw [lo3.base, b2]
    have bl : Bld h3 h2.next [] := ⟨.nilp, .nils, g2, .inl rfl, Row.nil _ _ _ _, by omega, by omega⟩
    rw [ldI_at g0 (x := st) rfl, fI_eq, wid kn.st0 (by have := kn.st1; omega), ldI_at g0 (x := beat) rfl, ldN_at g0 (l := [.int .i64 pw, .int .i32 pl, .int .i32 pt]) rfl]
    refine ⟨st.toNat, rfl, by have := kn.st1; omega, ?_⟩
    refine ck_intro (reads_self (aLoadN_at g0 rfl) (by simp [AV.same, AV.same.sames])) (ck_intro (reads_self ((aLoad1_at g0).trans rfl) (by simp [AV.same])) ?_)
    refine ⟨beat.toNat, toNat_of kn.b0, by have := kn.b1; omega, ?_⟩
    dsimp only
    rw [Str.cat_of, fS_eq]
    refine ck_intro (reads_self (aLoadN_at g0 rfl) (by simp [AV.same, AV.same.sames])) (ck_intro ?_ ?_)
    · rw [ble_iff]; show List.length _ + List.length _ ≤ _; omega
    refine ⟨pw, pl, pt, rfl, kn.pu, ?_⟩
    dsimp only
    rw [Str.cat_of, fS_eq]
    refine ck_intro ?_ ?_
    · rw [ble_iff]; show List.length _ + List.length _ ≤ _; simp only [List.length_append, stB_len]; omega
    refine t49 bl (by simp) (by simp only [List.length_append, stB_len]; omega) fun h4 b4 l4 => ?_
    have g0 := (l4.get h0.next (by omega)).trans g0
    have g1 := (l4.get h1.next (by omega)).trans g1
    have n4 := l4.next
    have sb := sb.low l4 (by omega)
    refine jd_intro (fun v' d' h' => v' = (.ptr h0.next 0, .ptr h1.next 0, .ptr h2.next 0, ()) ∧ d' = [] ∧ Low h2.next h3 h' ∧ Bld h' h2.next (keepB st w l t ks beat pw pl pt)) (fun j hj => ?_) ?_
    · rw [ldI_at g0 (x := st) rfl]
      show br (endsB st) _ _
      cases he : endsB st with
      | false =>
        rw [br_f]
        refine hj _ _ _ ⟨rfl, rfl, l4, ?_⟩
        rw [keepB, he]; simpa using b4
      | true =>
        have ha := kn.at' he
        rw [br_t, ldN_at g0 (l := [.int .i64 w, .int .i32 l, .int .i32 t]) rfl, ldV_at g0 (v := v) rfl, (q.at sb (by omega)).len]
        refine ⟨w, l, t, rfl, ha, ?_⟩
        have hsv : AV.same v v = true := by
          rcases q with ⟨_, rfl, _⟩ | ⟨tt, c, ex, _, rfl⟩ <;> simp [AV.same]
        refine ck_intro (reads_self ((aLoad1_at g0).trans rfl) hsv) ?_
        refine ⟨ks.length, rfl, by omega, ?_⟩
        dsimp only
        rw [Str.cat_of, fS_eq]
        refine ck_intro ?_ ?_
        · rw [ble_iff]; show List.length _ + List.length _ ≤ _; simp only [stB_len]; omega
        refine t49 b4 (by simp only [List.length_append, List.length_nil, stB_len]; omega) (by simp only [List.length_append, stB_len]; omega) fun h5 b5 l5 => ?_
        have g0 := (l5.get h0.next (by omega)).trans g0
        have g1 := (l5.get h1.next (by omega)).trans g1
        have n5 := l5.next
        have sb := sb.low l5 (by omega)
        rw [ldV_at g0 (v := v) rfl, (q.at sb (by omega)).len]
        refine lp_rule (fun c x d h' => ∃ i, x = (.ptr h0.next 0, .ptr h1.next 0, .ptr h2.next 0, v, .int .i64 (Int.ofNat ks.length), .int .i64 (Int.ofNat i), ()) ∧ d = [] ∧ i ≤ ks.length ∧ c = ks.length - i ∧ Low h2.next h3 h' ∧ Sub h0 h' ∧
            Bld h' h2.next (uv st.toNat ++ (uv beat.toNat ++ (stB pw pl pt ++ (stB w l t ++ (uv ks.length ++ keyB (ks.take i))))))) ?_ (n := ks.length) (by unfold fuel; omega)
            ⟨0, rfl, rfl, Nat.zero_le _, rfl, l4.trans l5, sb, by simpa [keyB] using b5⟩
        rintro c self x d h' ⟨i, rfl, rfl, hi, rfl, hL, hS, hB⟩ hs
        have nL := hL.next
        by_cases h6 : i < ks.length
        · obtain ⟨p, p1, p2⟩ := (q.at hS (by omega)).at h6
          have hu := kn.us i h6
          simp only [asI_int, fB_eq, fI_eq, lt_ltI h6, br_t, p1, p2]
          refine ⟨ks[i].length, rfl, by omega, ?_⟩
          dsimp only
          have v4 := uv_len 9 ks[i].length (Nat.lt_trans (m := 9223372036854775808) (by omega) (by decide))
          have kli := kl i
          rw [Str.cat_of, fS_eq]
          refine ck_intro ?_ ?_
          · rw [ble_iff]; show List.length _ + List.length _ ≤ _; omega
          refine t49 hB (by simp only [List.length_append, stB_len]; omega) (by simp only [List.length_append]; omega) fun h7 b7 l7 => ?_
          rw [add_one i (by omega)]
          refine hs _ _ _ _ (by omega) ⟨i + 1, rfl, rfl, h6, rfl, hL.trans l7, hS.low l7 (by omega), ?_⟩
          rw [keyB_snoc h6]; simpa using b7
        · simp only [asI_int, fB_eq, ge_ltI (a := i) (b := ks.length) (by omega), br_f]
          refine hj _ _ _ ⟨rfl, rfl, hL, ?_⟩
          rw [keepB, he]
          rw [List.take_of_length_le (by omega)] at hB
          exact hB
    · rintro v' d' h' ⟨rfl, rfl, hL, hB⟩
      have nL := hL.next
      have g0 := (hL.get h0.next (by omega)).trans ((lo3.get h0.next (by omega)).trans ((lo2.get h0.next (by omega)).trans (show h1.get h0.next = _ by assumption)))
      have g1 := (hL.get h1.next (by omega)).trans ((lo3.get h1.next (by omega)).trans (show h2.get h1.next = _ by assumption))
      dsimp only
      rw [faK_ptr, ldN_at g0 (l := [.int .i32 n, .int .i32 m]) rfl]
      refine ⟨n.toNat, m.toNat, by rw [← toNat_of kn.n0, ← toNat_of (by have := kn.m0; omega)]; rfl, ?_⟩
      have hlen : (keepB st w l t ks beat pw pl pt).length ≤ 100000 := by
        have := kl ks.length
        rw [List.take_length] at this
        unfold keepB
        cases endsB st <;> simp only [List.length_append, stB_len, cond_true, cond_false, List.length_nil] <;> omega
      refine t52 hB ?_ hlen fun h8 l8 => ?_
      · unfold keepB
        intro h
        have h := congrArg List.length h
        simp only [List.length_append, stB_len, List.length_nil] at h
        omega
      have g1 := (l8.get h1.next (by omega)).trans g1
      have n8 := l8.next
      show stN 3 _ _ _ (fun h' => ldN 3 _ h' _)
      rw [st_ld g1 rfl (by omega) (by rw [l8.base, hL.base, b3]; omega)]
      refine hk _ _ ?_ kz.symm
      rw [keepV, hc]; rfl
theorem row_toStr {g : Bool} {e n : Nat} {h : H} {v : AV} {l : List UInt8} (r : Row g e n h v l) : aToStr v h = some (.str (Str.of l)) := by
  rcases r with ⟨rfl, rfl⟩ | ⟨id, ex, sg, rfl, r2, r3, r4, r5⟩
  · rfl
  · unfold aToStr
    simp only [r4]
    have b : Nat.ble (Nat.add 0 l.length) (Str.of l).len = true := by rw [ble_iff]; show 0 + l.length ≤ l.length; omega
    have s : (Str.of l).sub 0 (Nat.add 0 l.length) = Str.of l := by
      show (Str.of l).sub 0 (0 + l.length) = _
      rw [Str.sub_of l 0 _ (by omega) (by omega)]; congr 1; simp
    rw [b, s]
theorem t19 {c42 : AV → Int → H → (AV → H → Prop) → Prop}
    (h42 : ∀ {h : H} {a0 : AV} {l : List UInt8} {x m : Nat} {g : Bool}, Row g 5 m h a0 l → x < 9223372036854775808 → l.length ≤ 100000 → h.base ≤ h.next → ∀ {K : AV → H → Prop}, (∀ v h', Row true 5 h.next h' v (l ++ uv x) → Low h.next h h' → K v h') → c42 a0 (Int.ofNat x) h K)
    {h0 : H} {v : AV} {ks : List (List UInt8)} (q : KV h0 v ks) {n m st w l t beat pw pl pt : Int}
    (hk : ∀ r e, r = keepV n m st w l t ks beat pw pl pt → e = knI n m st w l t ks beat pw pl pt → KA r e) :
    s19G J0 pSt c42 pKn pPl (recAV n m st w l t v beat pw pl pt) h0 fun r e _ => KA r e := by
  unfold s19G
  show Go.Am.asAgg (.agg _) _
  rw [asAgg_agg]
  refine push_out _ _ _ fun h1 lo1 g0 n1 => ?_
  refine push_out _ _ _ fun h2 lo2 g1 n2 => ?_
  have g0 := (lo2.get h0.next (by omega)).trans g0
  have b2 : h2.base = h0.next := by rw [lo2.base, lo1.base, q.full]
  have sb := (q.sub.low lo1 (Nat.le_refl _)).low lo2 (by omega)
  rw [ldN_at g0 (l := [.int .i32 n, .int .i32 m, .int .u8 st, .int .i64 w, .int .i32 l, .int .i32 t, v, .int .i64 beat, .int .i64 pw, .int .i32 pl, .int .i32 pt]) rfl]
  refine ⟨n, m, st, w, l, t, v, beat, pw, pl, pt, h0, ks, rfl, q, sb, ?_⟩
  dsimp only
  rw [fB_eq]
  cases hc : eqI (knI n m st w l t ks beat pw pl pt) (Int.ofNat 0) with
  | false =>
    rw [Bool.not_false, br_t, st_ld g1 rfl (by omega) (by omega)]
    refine hk _ _ ?_ rfl
    rw [keepV, hc]; rfl
  | true =>
    obtain ⟨kn, kz⟩ := knI_ok hc
    have v1 := uv_len 9 st.toNat (Nat.lt_trans (m := 9223372036854775808) (by have := kn.st1; omega) (by decide))
    have v2 := uv_len 9 beat.toNat (Nat.lt_trans (m := 9223372036854775808) (by have := kn.b1; omega) (by decide))
    have v3 := uv_len 9 ks.length (Nat.lt_trans (m := 9223372036854775808) (by have := kn.len; omega) (by decide))
    have kl := keys_len kn.us
    have klen := kn.len
    rw [Bool.not_true, br_f]
    rw [ldI_at g0 (x := st) rfl, fI_eq, wid_u kn.st0 (by have := kn.st1; omega)]
    refine h42 (g := true) (l := []) (m := 0) (Row.nil _ _ _ _) (by have := kn.st1; omega) (by simp) (by omega) fun a3 h3 r3 l3 => ?_
    have r3 := r3.down (m := h2.next) (by omega)
    have g0 := (l3.get h0.next (by omega)).trans g0
    have n3 := l3.next
    have b3 : h3.base = h0.next := by rw [l3.base, b2]
    rw [ldI_at g0 (x := beat) rfl, fI_eq, wid_u kn.b0 (by have := kn.b1; omega)]
    refine h42 r3 (by have := kn.b1; omega) (by simp only [List.length_append, List.length_nil]; omega) (by omega) fun a4 h4 r4 l4 => ?_
    have r4 := r4.down (m := h2.next) (by omega)
    have g0 := (l4.get h0.next (by omega)).trans g0
    have n4 := l4.next
    have b4 : h4.base = h0.next := by rw [l4.base, b3]
    rw [ldN_at g0 (l := [.int .i64 pw, .int .i32 pl, .int .i32 pt]) rfl]
    refine ⟨pw, pl, pt, rfl, kn.pu, ?_⟩
    refine ap_str r4 (by omega) (by omega) (by simp only [List.length_append, List.length_nil, stB_len, mostRoom]; omega) fun a5 h5 r5 l5 => ?_
    have g0 := (l5.get h0.next (by omega)).trans g0
    have n5 := l5.next
    have b5 : h5.base = h0.next := by rw [l5.base, b4]
    have L5 : Low h2.next h2 h5 := (l3.trans (l4.down (by omega))).trans l5
    refine jd_intro (fun v' d' h' => ∃ row, v' = (.ptr h0.next 0, .ptr h1.next 0, row, ()) ∧ d' = [] ∧ Low h2.next h2 h' ∧ Row true 5 h2.next h' row (keepB st w l t ks beat pw pl pt)) (fun j hj => ?_) ?_
    · rw [ldI_at g0 (x := st) rfl]
      have out : endsB st = false → j (.ptr h0.next 0, .ptr h1.next 0, a5, ()) [] h5 := fun he => by
        refine hj _ _ _ ⟨a5, rfl, rfl, L5, ?_⟩
        rw [keepB, he]; simpa using r5
      cases he : endsB st with
      | false =>
        have he' := he
        simp only [endsB, Bool.or_eq_false_iff] at he'
        rw [fB_eq, he'.1]
        simp only [↓jn_is, ↓br_t, ↓br_f, ↓pickB_t, ↓pickB_f, ↓asB_bool, ↓asI_int]
        rw [ldI_at g0 (x := st) rfl]
        rw [fB_eq, he'.2]
        simp only [↓jn_is, ↓br_t, ↓br_f, ↓pickB_t, ↓pickB_f, ↓asB_bool, ↓asI_int]
        exact out he
      | true =>
        have ha := kn.at' he
        have main : ldN 3 (.ptr h0.next 3) h5 (fun l52 => pSt (AV.agg l52) h5 fun s54 h53 => apB .str 5 a5 (AV.str s54) h53 fun v55 h56 => ldV (AV.ptr h0.next 6) h56 fun v57 => lenK v57 fun x58 => fI (wrapF .u64 (Int.ofNat x58)) fun x59 => c42 v55 x59 h56 fun v61 h60 =>
            J0.lp (α := AV × AV × AV × AV × Unit) (fun r65 v62 d63 h64 =>
              faK 6 v62.1 fun p66 =>
              ldV p66 h64 fun v67 =>
              lenK v67 fun x68 =>
              asI .i64 v62.2.2.2.1 fun x69 =>
              fB (ltI x69 (Int.ofNat x68)) fun b70 =>
              br b70 (
              faK 6 v62.1 fun p71 =>
              ldV p71 h64 fun v72 =>
              ixK 1 v72 v62.2.2.2.1 fun p73 =>
              ldS p73 h64 fun s74 =>
              fI (wrapF .u64 (Int.ofNat s74.len)) fun x75 =>
              c42 v62.2.2.1 x75 h64 fun v77 h76 =>
              faK 6 v62.1 fun p78 =>
              ldV p78 h76 fun v79 =>
              ixK 1 v79 v62.2.2.2.1 fun p80 =>
              ldS p80 h76 fun s81 =>
              apB .str 5 v77 (AV.str s81) h76 fun v82 h83 =>
              asI .i64 v62.2.2.2.1 fun x84 =>
              fI (wrapF .i64 (Int.add x84 (Int.ofNat 1))) fun x85 =>
              r65 (v62.1, v62.2.1, v82, (AV.int .i64 x85), ()) d63 h83) (
              j (v62.1, v62.2.1, v62.2.2.1, ()) d63 h64)) ((AV.ptr h0.next 0), (AV.ptr h1.next 0), v61, (AV.int .i64 (Int.ofNat 0)), ()) [] h60) := by
          rw [ldN_at g0 (l := [.int .i64 w, .int .i32 l, .int .i32 t]) rfl]
          refine ⟨w, l, t, rfl, ha, ?_⟩
          refine ap_str r5 (by omega) (by omega) (by simp only [List.length_append, List.length_nil, stB_len, mostRoom]; omega) fun a6 h6 r6 l6 => ?_
          have g0 := (l6.get h0.next (by omega)).trans g0
          have n6 := l6.next
          have b6 : h6.base = h0.next := by rw [l6.base, b5]
          have L6 := L5.trans l6
          have sb6 := sb.low L6 (by omega)
          rw [ldV_at g0 (v := v) rfl, (q.at sb6 (by omega)).len, fI_eq]
          have e3 : wrapF .u64 (Int.ofNat ks.length) = Int.ofNat ks.length := wrapF_nat (kk := .u64) (by show ks.length < 18446744073709551616; omega)
          rw [e3]
          refine h42 r6 (by omega) (by simp only [List.length_append, List.length_nil, stB_len]; omega) (by omega) fun a7 h7 r7 l7 => ?_
          have r7 := r7.down (m := h2.next) (by omega)
          have n7 := l7.next
          have L7 := L6.trans (l7.down (by omega))
          refine lp_rule (fun c x d h' => ∃ i row, x = (.ptr h0.next 0, .ptr h1.next 0, row, .int .i64 (Int.ofNat i), ()) ∧ d = [] ∧ i ≤ ks.length ∧ c = ks.length - i ∧ Low h2.next h2 h' ∧
              Row true 5 h2.next h' row (uv st.toNat ++ (uv beat.toNat ++ (stB pw pl pt ++ (stB w l t ++ (uv ks.length ++ keyB (ks.take i))))))) ?_ (n := ks.length) (by unfold fuel; omega)
              ⟨0, a7, rfl, rfl, Nat.zero_le _, rfl, L7, by simpa [keyB] using r7⟩
          rintro c self x d h' ⟨i, row, rfl, rfl, hi, rfl, hL, hR⟩ hs
          have nL := hL.next
          have bL : h'.base = h0.next := by rw [hL.base, b2]
          have gL := (hL.get h0.next (by omega)).trans ((lo2.get h0.next (by omega)).trans (show h1.get h0.next = _ by assumption))
          have sL := sb.low hL (by omega)
          have kL := q.at sL (by omega)
          have gl : ∀ k : AV → Prop, ldV (.ptr h0.next (Nat.add 0 6)) h' k = k v := fun k => ldV_at gL (v := v) rfl k
          by_cases h8 : i < ks.length
          · obtain ⟨p, p1, p2⟩ := kL.at h8
            have hu := kn.us i h8
            have kli := kl i
            have v4 := uv_len 9 ks[i].length (Nat.lt_trans (m := 9223372036854775808) (by omega) (by decide))
            simp only [asI_int, fB_eq, fI_eq, faK_ptr, gl, kL.len, lt_ltI h8, br_t, p1, p2]
            have e4 : wrapF .u64 (Int.ofNat (Str.of ks[i]).len) = Int.ofNat ks[i].length := wrapF_nat (kk := .u64) (by show ks[i].length < 18446744073709551616; omega)
            rw [e4]
            refine h42 hR (by omega) (by simp only [List.length_append, stB_len]; omega) (by omega) fun a9 h9 r9 l9 => ?_
            have r9 := r9.down (m := h2.next) (by omega)
            have n9 := l9.next
            have L9 := hL.trans (l9.down (by omega))
            have g9 := (l9.get h0.next (by omega)).trans gL
            have k9 := q.at (sL.low l9 (by omega)) (by omega)
            obtain ⟨p', p3, p4⟩ := k9.at h8
            rw [ldV_at g9 (v := v) rfl, p3, p4]
            refine ap_str r9 (by rw [L9.base, b2]; omega) (by omega) (by simp only [List.length_append, List.length_nil, stB_len, mostRoom]; omega) fun a10 h10 r10 l10 => ?_
            rw [add_one i (by omega)]
            refine hs _ _ _ _ (by omega) ⟨i + 1, a10, rfl, rfl, h8, rfl, L9.trans l10, ?_⟩
            rw [keyB_snoc h8]; simpa using r10
          · simp only [asI_int, fB_eq, faK_ptr, gl, kL.len, ge_ltI (a := i) (b := ks.length) (by omega), br_f]
            refine hj _ _ _ ⟨row, rfl, rfl, hL, ?_⟩
            rw [keepB, he]
            rw [List.take_of_length_le (by omega)] at hR
            exact hR
        have he' := he
        unfold endsB at he'
        cases e2 : eqI st (Int.ofNat 2) with
        | true =>
          rw [fB_eq]
          simp only [↓jn_is, ↓br_t, ↓br_f, ↓pickB_t, ↓pickB_f, ↓asB_bool, ↓asI_int]
          exact main
        | false =>
          rw [e2, Bool.false_or] at he'
          rw [fB_eq]
          simp only [↓jn_is, ↓br_t, ↓br_f, ↓pickB_t, ↓pickB_f, ↓asB_bool, ↓asI_int]
          rw [ldI_at g0 (x := st) rfl]
          rw [fB_eq, he']
          simp only [↓jn_is, ↓br_t, ↓br_f, ↓pickB_t, ↓pickB_f, ↓asB_bool, ↓asI_int]
          exact main
    · rintro v' d' h' ⟨row, rfl, rfl, hL, hR⟩
      have nL := hL.next
      have g0 := (hL.get h0.next (by omega)).trans ((lo2.get h0.next (by omega)).trans (show h1.get h0.next = _ by assumption))
      have g1 := (hL.get h1.next (by omega)).trans (show h2.get h1.next = _ by assumption)
      dsimp only
      rw [faK_ptr, ldN_at g0 (l := [.int .i32 n, .int .i32 m]) rfl, hR.str]
      refine ⟨n.toNat, m.toNat, by rw [← toNat_of kn.n0, ← toNat_of (by have := kn.m0; omega)]; rfl, ?_⟩
      refine ck_intro (reads_self (row_toStr hR) (by simp [AV.same])) ?_
      show stN 3 _ _ _ (fun h' => ldN 3 _ h' _)
      rw [st_ld g1 rfl (by omega) (by rw [hL.base, b2]; omega)]
      refine hk _ _ ?_ kz.symm
      rw [keepV, hc]; rfl
end
end Go.Proofs.Ytlbigopkplckaaa
