/- Lists of keys that grow; what a key and a value are read as, as a record. No condition. -/
import Derived.Test.YtlbigopkplckaaaRdL
namespace Go.Proofs.Ytlbigopkplckaaa
open Go Go.Am
set_option linter.all false
set_option maxRecDepth 100000
/-- a list of keys of one's own, made at or above place n -/
def KRow (n : Nat) (h : H) (v : AV) (ks : List (List UInt8)) : Prop := (v = .nils ∧ ks = []) ∨ ∃ id m, v = .slice id 0 ks.length ks.length 1 false ∧ 1 ≤ ks.length ∧ n ≤ id ∧ id < h.next ∧ h.get id = .cells m 9 (kcells ks)
theorem KRow.keys {n : Nat} {h : H} {v : AV} {ks : List (List UInt8)} (q : KRow n h v ks) : KeysAt h v ks := by
  rcases q with q | ⟨id, m, q1, q2, q3, q4, q5⟩
  · exact .inl q
  · exact .inr ⟨id, ks.length, false, m, 9, q1, q5, q4⟩
theorem KRow.low {n m : Nat} {h h' : H} {v : AV} {ks : List (List UInt8)} (q : KRow n h v ks) (l : Low m h h') (hm : h.next ≤ m) : KRow n h' v ks := by
  rcases q with q | ⟨id, mm, q1, q2, q3, q4, q5⟩
  · exact .inl q
  · exact .inr ⟨id, mm, q1, q2, q3, by have := l.next; omega, by rw [l.get id (by omega)]; exact q5⟩
theorem KRow.puts {n i : Nat} {h : H} {v : AV} {ks : List (List UInt8)} (q : KRow n h v ks) (hi : i < h.next) (hn : i < n) (b : Blk) : KRow n (putted h i b) v ks := by
  rcases q with q | ⟨id, mm, q1, q2, q3, q4, q5⟩
  · exact .inl q
  · exact .inr ⟨id, mm, q1, q2, q3, q4, by rw [putted_get _ _ _ hi, if_neg (by omega)]; exact q5⟩
theorem KRow.one {n : Nat} {h : H} {v : AV} {ks : List (List UInt8)} (q : KRow n h v ks) : isOne v = true := by
  rcases q with ⟨rfl, _⟩ | ⟨id, m, rfl, _⟩ <;> rfl
theorem KRow.same {n : Nat} {h : H} {v : AV} {ks : List (List UInt8)} (q : KRow n h v ks) : AV.same v v = true := by
  rcases q with ⟨rfl, _⟩ | ⟨id, m, rfl, _⟩ <;> simp [AV.same]
theorem kcells_snoc (ks : List (List UInt8)) (k : List UInt8) : kcells (ks ++ [k]) = kcells ks ++ [.str (Str.of k)] := by simp [kcells]
theorem kcells_len (ks : List (List UInt8)) : (kcells ks).length = ks.length := by simp [kcells]
theorem ltake_all (l : List AV) : ltake l.length l = some l := by rw [ltake_eq, if_pos (Nat.le_refl _), List.take_length]
theorem ldrop_0 (l : List AV) : ldrop 0 l = l := by rw [ldrop_eq]; rfl
/-- one key behind the others -/
theorem apC_key {n : Nat} {h : H} {v : AV} {ks : List (List UInt8)} {k : List UInt8} {K : AV → H → Prop} (q : KRow n h v ks) (hn : n ≤ h.next) (hb : h.base ≤ n) (hl : ks.length ≤ 1000)
    (hk : ∀ v' h', KRow n h' v' (ks ++ [k]) → Low n h h' → K v' h') :
    pushK (.cells false 9 [.str (Str.of k)]) h fun i h1 => apC 9 1 16 v (.slice i 0 1 1 1 true) h1 K := by
  rw [pushK_is]
  have l0 := Low.push h.next h (.cells false 9 [.str (Str.of k)]) (Nat.le_refl _)
  have g0 : (pushed h (.cells false 9 [.str (Str.of k)])).get h.next = .cells false 9 [.str (Str.of k)] := by rw [pushed_get, if_pos rfl]
  have n0 : (pushed h (.cells false 9 [.str (Str.of k)])).next = h.next + 1 := rfl
  have b0 : (pushed h (.cells false 9 [.str (Str.of k)])).base = h.base := rfl
  have q := q.low l0 (Nat.le_refl _)
  generalize pushed h (.cells false 9 [.str (Str.of k)]) = h1 at l0 g0 n0 b0 q ⊢
  have src : ∀ f : Nat → List AV → Prop, srcC 1 (.slice h.next 0 1 1 1 true) h1 f = f 1 [.str (Str.of k)] := fun f => by
    show asRow' (h1.get h.next) _ _ = _
    rw [g0]; rfl
  unfold apC
  rw [src]
  rcases q with ⟨rfl, rfl⟩ | ⟨id, m, rfl, q2, q3, q4, q5⟩
  · rw [asSl_nils, show Nat.beq 1 0 = false from rfl, br_f]
    refine ck_intro (by decide) ?_
    rw [pushK_is]
    refine hk _ _ (.inr ⟨h1.next, false, rfl, Nat.le_refl _, by omega, by rw [pushed_next]; omega, by rw [pushed_get, if_pos rfl]; rfl⟩) ((l0.down hn).trans (Low.push n h1 _ (by omega)))
  · rw [asSl_slice, q5, asRow_cells, fN_eq]
    have e1 : Nat.ble (Nat.add ks.length 1) ks.length = false := by
      cases hx : Nat.ble (Nat.add ks.length 1) ks.length
      · rfl
      · rw [ble_iff] at hx; have hx : ks.length + 1 ≤ ks.length := hx; omega
    rw [e1, br_f]
    refine ck_intro (by rw [ble_iff]; show (ks.length + 1) * 16 ≤ mostRoom; simp only [mostRoom]; omega) ?_
    have e2 : ltake (Nat.mul ks.length 1) (ldrop 0 (kcells ks)) = some (kcells ks) := by
      rw [ldrop_0, show Nat.mul ks.length 1 = (kcells ks).length by rw [kcells_len]; exact Nat.mul_one _]
      exact ltake_all _
    rw [e2, op'_some, lappK_eq, lapp_eq, br_f]
    refine ck_intro rfl (ck_intro rfl (ck_intro rfl ?_))
    rw [putK_is _ q4 (by omega), pushK_is]
    have l1 := Low.put (n := n) (h := h1) .dead q4 q3
    have l2 := Low.push n (putted h1 id .dead) (.cells true 9 (kcells ks ++ [.str (Str.of k)])) (by rw [putted_next]; omega)
    refine hk _ _ (.inr ⟨(putted h1 id .dead).next, true, ?_, by simp, by rw [putted_next]; omega, by rw [pushed_next]; omega, by rw [pushed_get, if_pos rfl, kcells_snoc]⟩) ((l0.down hn).trans (l1.trans l2))
    simp
/-! ## records that may be kept -/
structure Kz (st w l t : Int) (ks : List (List UInt8)) : Prop where
  z : endsB st = false → w = 0 ∧ l = 0 ∧ t = 0 ∧ ks = []
theorem knI_z {n m st w l t : Int} {ks : List (List UInt8)} {beat pw pl pt : Int} (h : eqI (knI n m st w l t ks beat pw pl pt) (Int.ofNat 0) = true) : endsB st = false → w = 0 ∧ l = 0 ∧ t = 0 ∧ ks = [] := by
  intro he
  unfold knI at h
  cases hc : eqI (chkR n m st w l t ks beat pw pl pt) (Int.ofNat 0) with
  | false => rw [hc] at h; have h : eqI (chkR n m st w l t ks beat pw pl pt) (Int.ofNat 0) = true := h; rw [hc] at h; cases h
  | true =>
    obtain ⟨c1, c2⟩ := chk24 hc
    simp only [okR, Bool.and_eq_true, Bool.not_eq_true'] at c2
    obtain ⟨_, _, _, _, c6⟩ := c2
    unfold endsB at he
    rw [he] at c6
    cases e : (eqI st (Int.ofNat 1) || eqI st (Int.ofNat 4)) with
    | false => rw [e] at c6; cases c6
    | true =>
      rw [e] at c6
      have c6 : (zS w l t && eqI (Int.ofNat ks.length) (Int.ofNat 0)) = true := c6
      simp only [zS, Bool.and_eq_true, eqI_true] at c6
      obtain ⟨⟨z1, z2, z3⟩, z4⟩ := c6
      refine ⟨z1, z2, z3, List.length_eq_zero_iff.1 ?_⟩
      have z4 : (ks.length : Int) = 0 := z4
      omega
/-- what a record is read of -/
structure RecOk (K V : List UInt8) (n m st w l t : Int) (ks : List (List UInt8)) (beat pw pl pt : Int) : Prop where
  kn : eqI (knI n m st w l t ks beat pw pl pt) (Int.ofNat 0) = true
  k : K = plB n.toNat m.toNat
  v : V = keepB st w l t ks beat pw pl pt
def RecP (K V : List UInt8) (n m st w l t : Int) (ks : List (List UInt8)) (beat pw pl pt : Int) (e : Int) : Prop :=
  (RecOk K V n m st w l t ks beat pw pl pt ∧ e = Int.ofNat 0) ∨
  ((∀ n m st w l t ks beat pw pl pt, RecOk K V n m st w l t ks beat pw pl pt → False) ∧ n = 0 ∧ m = 0 ∧ st = 0 ∧ w = 0 ∧ l = 0 ∧ t = 0 ∧ ks = [] ∧ beat = 0 ∧ pw = 0 ∧ pl = 0 ∧ pt = 0 ∧ e = Int.ofNat 5)
noncomputable def pKeepL : AV → H → (AV → Int → H → Prop) → Prop := fun a h k => ∃ n m st w l t v beat pw pl pt ks, a = recAV n m st w l t v beat pw pl pt ∧ KeysAt h v ks ∧ k (keepV n m st w l t ks beat pw pl pt) (knI n m st w l t ks beat pw pl pt) h
theorem kcells_flat : ∀ ks : List (List UInt8), AV.flatL (kcells ks) = true
  | [] => rfl
  | k :: ks => by show (true && AV.flatL (kcells ks)) = true; rw [kcells_flat ks]; rfl
end Go.Proofs.Ytlbigopkplckaaa
