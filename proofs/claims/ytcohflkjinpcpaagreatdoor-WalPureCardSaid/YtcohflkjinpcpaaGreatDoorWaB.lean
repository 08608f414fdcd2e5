/- Bytes that are read, numbers of a few bytes, writes: the plain part. No condition. -/
import Derived.Test.YtcohflkjinpcpaaGreatDoorAmL7
import Derived.Test.YtcohflkjinpcpaaGreatDoorSvA2
import Derived.Test.YtcohflkjinpcpaaGreatDoorAmS4
namespace Go.Am
open Go
set_option linter.all false
set_option maxRecDepth 100000
/-- v: bytes that are told as b -/
def SlB (h : H) (v : AV) (b : List UInt8) : Prop := (b = [] ∧ v = .nils) ∨ ∃ id off cap ex t f sg l, v = .slice id off b.length cap 1 ex ∧ h.get id = .bytes t f sg (Str.of l) ∧ off + b.length ≤ l.length ∧ (l.take (off + b.length)).drop off = b ∧ b.length ≤ cap
theorem SlB.same {h h' : H} {v : AV} {b : List UInt8} (s : SlB h v b) (hg : ∀ id t f g x, h.get id = .bytes t f g x → h'.get id = h.get id) : SlB h' v b := by
  rcases s with s | ⟨id, off, cap, ex, t, f, sg, l, e1, e2, e3⟩
  · exact .inl s
  · exact .inr ⟨id, off, cap, ex, t, f, sg, l, e1, by rw [hg _ _ _ _ _ e2]; exact e2, e3⟩
theorem SlB.nil (h : H) : SlB h .nils [] := .inl ⟨rfl, rfl⟩
theorem SlB.row {h : H} {id cap t f : Nat} {ex sg : Bool} {l : List UInt8} (e : h.get id = .bytes t f sg (Str.of l)) (hc : l.length ≤ cap) : SlB h (.slice id 0 l.length cap 1 ex) l :=
  .inr ⟨id, 0, cap, ex, t, f, sg, l, rfl, e, by omega, by simp, hc⟩
theorem SlB.ofRow {g : Bool} {e n : Nat} {h : H} {v : AV} {l : List UInt8} (r : Row g e n h v l) : SlB h v l := by
  rcases r with ⟨rfl, rfl⟩ | ⟨id, ex, sg, rfl, r2, r3, r4, r5⟩
  · exact SlB.nil h
  · exact SlB.row r4 (Nat.le_refl _)
theorem SlB.len {h : H} {v : AV} {b : List UInt8} (s : SlB h v b) (k : Nat → Prop) : lenK v k = k b.length := by
  rcases s with ⟨rfl, rfl⟩ | ⟨id, off, cap, ex, t, f, sg, l, rfl, _⟩ <;> rfl
theorem SlB.one {h : H} {v : AV} {b : List UInt8} (s : SlB h v b) : isOne v = true := by
  rcases s with ⟨rfl, rfl⟩ | ⟨id, off, cap, ex, t, f, sg, l, rfl, _⟩ <;> rfl
theorem SlB.str {h : H} {v : AV} {b : List UInt8} (s : SlB h v b) (k : Str → Prop) : toStrK v h k = k (Str.of b) := by
  rcases s with ⟨rfl, rfl⟩ | ⟨id, off, cap, ex, t, f, sg, l, rfl, e2, e3, e4⟩
  · rfl
  · unfold toStrK
    rw [asSl_slice, e2, asRow_bytes, fN_eq]
    show ck (Nat.ble (off + b.length) l.length) _ = _
    rw [(ble_iff _ _).2 e3, ck_t, fS_eq]
    show k ((Str.of l).sub off (off + b.length)) = _
    rw [Str.sub_of l off _ (by omega) e3, e4.1]
theorem SlB.src {h : H} {v : AV} {b : List UInt8} (s : SlB h v b) (t : Nat) (k : Str → Prop) : srcB (.slice t) v h k = k (Str.of b) := s.str k
theorem SlB.nilB {h : H} {v : AV} {b : List UInt8} (s : SlB h v b) {k : Bool → Prop} (h1 : b = [] → v = .nils → k true) (h2 : k false) : nilB 2 v k := by
  rcases s with ⟨rfl, rfl⟩ | ⟨id, off, cap, ex, t, f, sg, l, rfl, e2, e3, e4⟩
  · exact h1 rfl rfl
  · exact h2
theorem take_drop_take {α : Type} (l : List α) {o n i m : Nat} (him : i + m ≤ n) : (l.take (o + i + m)).drop (o + i) = (((l.take (o + n)).drop o).drop i).take m := by
  rw [List.drop_take, List.drop_take, List.drop_take, List.drop_drop, List.take_take]
  congr 1; omega
/-- a part of a row -/
theorem SlB.part {h : H} {v : AV} {b : List UInt8} (s : SlB h v b) {i m : Nat} (him : i + m ≤ b.length) (hm : 0 < m) {kk k2 k3 : IntKind} :
    ∃ v', aSlice3 1 v (some (.int kk (Int.ofNat i))) (some (.int k2 (Int.ofNat (i + m)))) (.int k3 (Int.ofNat (i + m))) = some v' ∧ SlB h v' ((b.drop i).take m) := by
  rcases s with ⟨rfl, rfl⟩ | ⟨id, off, cap, ex, t, f, sg, l, rfl, e2, e3, e4, e5⟩
  · simp at him; omega
  · refine ⟨.slice id (off + i) m m 1 true, ?_, ?_⟩
    · unfold aSlice3
      simp only [bnd]
      rw [(ble_iff (i + m) cap).2 (by omega), (ble_iff (i + m) (i + m)).2 (Nat.le_refl _), (ble_iff i (i + m)).2 (by omega)]
      have e : Nat.beq (i + m) i = false := by
        cases hb : Nat.beq (i + m) i with
        | false => rfl
        | true => rw [Nat.beq_eq] at hb; omega
      rw [e]
      simp only [seqN_eq]
      have a1 : Nat.add off (Nat.mul i 1) = off + i := by show off + i * 1 = _; omega
      have a2 : Nat.sub (i + m) i = m := by show i + m - i = m; omega
      rw [a1, a2]
      rfl
    · have el : ((b.drop i).take m).length = m := by simp; omega
      refine .inr ⟨id, off + i, m, true, t, f, sg, l, by rw [el], e2, by rw [el]; omega, ?_, by rw [el]; exact Nat.le_refl _⟩
      rw [el, take_drop_take l him, e4]
/-- what stands behind a place -/
theorem SlB.rest {h : H} {v : AV} {b : List UInt8} (s : SlB h v b) {i : Nat} (hi : i < b.length) {kk : IntKind} {k : AV → Prop} (hk : ∀ v', (∀ f : Nat → Prop, lenK v' f = f (b.length - i)) → k v') :
    slK 1 v (some (.int kk (Int.ofNat i))) none k := by
  rcases s with ⟨rfl, rfl⟩ | ⟨id, off, cap, ex, t, f, sg, l, rfl, e2, e3, e4, e5⟩
  · simp at hi
  · unfold slK
    rw [asSl_slice]
    show ck (Nat.ble b.length cap) (ck (Nat.ble i b.length) (ck true (br (Nat.beq cap i) _ _)))
    rw [(ble_iff _ _).2 e5, (ble_iff _ _).2 (by omega), ck_t, ck_t, ck_t, fN_eq, fN_eq, fN_eq, fN_eq]
    refine br_intro (fun h0 => ?_) fun h0 => ?_
    · rw [Nat.beq_eq] at h0; omega
    · exact hk _ fun f => rfl
theorem SlB.low {h h' : H} {n : Nat} {v : AV} {b : List UInt8} (s : SlB h v b) (l : Low n h h') (hn : h.next ≤ n) : SlB h' v b :=
  s.same fun id t f g x e => l.get id (Nat.lt_of_lt_of_le (H.lt_of_live (by rw [e]; rfl)) hn)
theorem SlB.at {h : H} {v : AV} {b : List UInt8} (s : SlB h v b) {i : Nat} (hi : i < b.length) : ∃ p, (∀ (kk : IntKind) (k : AV → Prop), ixK 1 v (.int kk (Int.ofNat i)) k = k p) ∧
    ∀ (h' : H) (k : Int → Prop), (∀ id, id < h.next → h'.get id = h.get id) → ldI .u8 p h' k = k (bI b[i]) := by
  rcases s with ⟨rfl, rfl⟩ | ⟨id, off, cap, ex, t, f, sg, l, rfl, e2, e3, e4, e5⟩
  · simp at hi
  · refine ⟨.ptr id (off + i), fun kk k => ?_, fun h' k hg => ?_⟩
    · show ck (Nat.blt i b.length) (fN (Nat.add off (Nat.mul i 1)) fun o => k (.ptr id o)) = _
      rw [(blt_iff _ _).2 hi, fN_eq]
      have e : Nat.add off (Nat.mul i 1) = off + i := by show off + i * 1 = off + i; omega
      rw [e]; rfl
    · have e2' : h'.get id = .bytes t f sg (Str.of l) := (hg id (H.lt_of_live (by rw [e2]; rfl))).trans e2
      show asRow' (h'.get id) (fun _ _ cs => op' (lgetO cs (off + i)) fun v => asI .u8 v k) (fun _ _ _ s => ck (Nat.blt (off + i) s.len) (fN (s.get (off + i)) fun c => asI .u8 (.int .u8 (Int.ofNat c)) k)) = _
      rw [e2', asRow_bytes, fN_eq, asI_int]
      have hl : off + i < l.length := by omega
      show ck (Nat.blt (off + i) l.length) _ = _
      rw [(blt_iff _ _).2 hl, Str.get_of _ _ hl]
      have hq : b[i]? = l[off + i]? := by
        have : b[i]? = ((l.take (off + b.length)).drop off)[i]? := by rw [e4]
        rw [this, List.getElem?_drop, List.getElem?_take, if_pos (by omega)]
      rw [List.getElem?_eq_getElem hi, List.getElem?_eq_getElem hl] at hq
      injection hq with hq
      rw [hq]; rfl
/-- what stands between two places -/
theorem SlB.cut {h : H} {v : AV} {b : List UInt8} (s : SlB h v b) {i j : Nat} {lo hi : Option AV} (h1 : ∀ k, bndK 0 lo k = k i) (h2 : ∀ k, bndK b.length hi k = k j) (hij : i ≤ j) (hj : j ≤ b.length) {k : AV → Prop}
    (hk : ∀ v', SlB h v' ((b.take j).drop i) → k v') : slK 1 v lo hi k := by
  have el : ((b.take j).drop i).length = j - i := by rw [List.length_drop, List.length_take]; omega
  rcases s with ⟨rfl, rfl⟩ | ⟨id, off, cap, ex, t, f, sg, l, rfl, e2, e3, e4, e5⟩
  · have hj : j = 0 := by simpa using hj
    have hi : i = 0 := by omega
    subst hj hi
    unfold slK
    rw [asSl_nils, h1]
    have h2 : ∀ k, bndK 0 hi k = k 0 := h2
    rw [h2]
    exact ck_intro rfl (ck_intro rfl (hk _ (.inl ⟨rfl, rfl⟩)))
  · unfold slK
    rw [asSl_slice, h1, h2, (ble_iff _ _).2 (by omega : j ≤ cap), (ble_iff _ _).2 hij, ck_t, ck_t]
    show ck true (br (Nat.beq cap i) _ _)
    rw [ck_t, fN_eq, fN_eq, fN_eq, fN_eq]
    have e0 : Nat.add off (Nat.mul i 1) = off + i := by show off + i * 1 = off + i; omega
    have e1 : Nat.sub j i = j - i := rfl
    have e9 : Nat.sub cap i = cap - i := rfl
    rw [e0, e1, e9]
    refine br_intro (fun h0 => ?_) fun h0 => ?_
    · rw [Nat.beq_eq] at h0
      have hz : j - i = 0 := by omega
      exact hk _ (.inr ⟨id, off, 0, ex, t, f, sg, l, by rw [el], e2, by rw [el]; omega, by rw [List.length_eq_zero_iff.1 (el.trans hz)]; simp [hz], by rw [el]; omega⟩)
    · refine hk _ (.inr ⟨id, off + i, cap - i, ex, t, f, sg, l, by rw [el], e2, by rw [el]; omega, ?_, by rw [el]; omega⟩)
      rw [el, take_drop_take l (by omega : i + (j - i) ≤ b.length), e4, List.drop_take]
theorem bnd_none (d : Nat) (k : Nat → Prop) : bndK d none k = k d := rfl
theorem bnd_some (d n : Nat) (kk : IntKind) (k : Nat → Prop) : bndK d (some (.int kk (Int.ofNat n))) k = k n := rfl
theorem SlB.tail {h : H} {v : AV} {b : List UInt8} (s : SlB h v b) {i : Nat} {kk : IntKind} (hi : i ≤ b.length) {k : AV → Prop} (hk : ∀ v', SlB h v' (b.drop i) → k v') : slK 1 v (some (.int kk (Int.ofNat i))) none k :=
  s.cut (bnd_some 0 i kk) (bnd_none _) hi (Nat.le_refl _) fun v' q => hk v' (by rw [List.take_length] at q; exact q)
theorem SlB.head {h : H} {v : AV} {b : List UInt8} (s : SlB h v b) {i : Nat} {kk : IntKind} (hi : i ≤ b.length) {k : AV → Prop} (hk : ∀ v', SlB h v' (b.take i) → k v') : slK 1 v none (some (.int kk (Int.ofNat i))) k :=
  s.cut (bnd_none 0) (bnd_some _ i kk) (Nat.zero_le _) hi hk
theorem Row.slb {g : Bool} {e n : Nat} {h : H} {v : AV} {l : List UInt8} (r : Row g e n h v l) : SlB h v l := SlB.ofRow r
theorem lt_of_ltI {a b : Nat} (h : ltI (Int.ofNat a) (Int.ofNat b) = true) : a < b := by have := ltI_true.1 h; have h2 : (a : Int) < (b : Int) := this; omega
theorem ge_of_ltI {a b : Nat} (h : ltI (Int.ofNat a) (Int.ofNat b) = false) : b ≤ a := by have := ltI_false.1 h; have h2 : (b : Int) ≤ (a : Int) := this; omega
theorem add_one (i : Nat) (h : i + 1 < 9223372036854775808) : wrapF .i64 (Int.add (Int.ofNat i) (Int.ofNat 1)) = Int.ofNat (i + 1) := wrapF_nat (kk := .i64) (m := i + 1) (by show i + 1 < 9223372036854775808; exact h)
theorem eqI_nat (a b : Nat) : eqI (Int.ofNat a) (Int.ofNat b) = decide (a = b) := by
  by_cases h : a = b
  · subst h; rw [decide_eq_true rfl]; exact eqI_true.2 rfl
  · rw [decide_eq_false h, eqI_false]; intro q; have q : (a : Int) = (b : Int) := q; omega
theorem eqI_bc (c d : UInt8) : eqI (bI c) (bI d) = decide (c = d) := by
  rw [show bI c = Int.ofNat c.toNat from rfl, show bI d = Int.ofNat d.toNat from rfl, eqI_nat]
  by_cases h : c = d
  · subst h; simp
  · rw [decide_eq_false h, decide_eq_false]; intro q; exact h (UInt8.toNat_inj.1 q)
def uv (x : Nat) : List UInt8 := if h : x < 128 then [UInt8.ofNat x] else UInt8.ofNat (x % 128 + 128) :: uv (x / 128)
termination_by x
decreasing_by omega
theorem uv_small {x : Nat} (h : x < 128) : uv x = [UInt8.ofNat x] := by rw [uv, dif_pos h]
theorem uv_big {x : Nat} (h : 128 ≤ x) : uv x = UInt8.ofNat (x % 128 + 128) :: uv (x / 128) := by rw [uv, dif_neg (by omega)]
theorem uv_len : ∀ (n x : Nat), x < 128 ^ (n + 1) → (uv x).length ≤ n + 1
  | 0, x, h => by rw [uv_small (by simpa using h)]; simp
  | n + 1, x, h => by
    by_cases h1 : x < 128
    · rw [uv_small h1]; simp
    · rw [uv_big (by omega), List.length_cons]
      have := uv_len n (x / 128) (by rw [Nat.div_lt_iff_lt_mul (by decide)]; rw [Nat.pow_succ] at h; exact h)
      omega
theorem ofNat_inj {a b : Nat} (ha : a < 256) (hb : b < 256) (h : UInt8.ofNat a = UInt8.ofNat b) : a = b := by
  have := congrArg UInt8.toNat h
  simp at this; omega
theorem toNat_ofNat {a : Nat} (ha : a < 256) : (UInt8.ofNat a).toNat = a := by simp; omega
theorem uv_ne (x : Nat) : uv x ≠ [] := by
  by_cases h : x < 128
  · rw [uv_small h]; simp
  · rw [uv_big (by omega)]; simp
theorem uv_pre : ∀ {x y : Nat} {s t : List UInt8}, uv x ++ s = uv y ++ t → x = y ∧ s = t := by
  intro x
  induction x using Nat.strongRecOn with
  | ind x ih =>
    intro y s t h
    by_cases hx : x < 128 <;> by_cases hy : y < 128
    · rw [uv_small hx, uv_small hy] at h
      injection h with h1 h2
      exact ⟨ofNat_inj (by omega) (by omega) h1, h2⟩
    · rw [uv_small hx, uv_big (x := y) (by omega)] at h
      injection h with h1 h2
      have := ofNat_inj (by omega) (by omega) h1; omega
    · rw [uv_big (x := x) (by omega), uv_small hy] at h
      injection h with h1 h2
      have := ofNat_inj (by omega) (by omega) h1; omega
    · rw [uv_big (x := x) (by omega), uv_big (x := y) (by omega)] at h
      injection h with h1 h2
      have h1 := ofNat_inj (by omega) (by omega) h1
      obtain ⟨h3, h4⟩ := ih (x / 128) (by omega) h2
      exact ⟨by omega, h4⟩
theorem wrap64_ex (n : Int) : ∃ m : Nat, wrapF .u64 n = Int.ofNat m ∧ m < 18446744073709551616 := by
  rw [wrap_u64]
  refine ⟨(n % 18446744073709551616).toNat, ?_, ?_⟩
  · show _ = ((n % 18446744073709551616).toNat : Int); omega
  · omega
theorem landn128 : ∀ b, b < 256 → landnF .u8 (Int.ofNat b) (Int.ofNat 128) = Int.ofNat (b % 128) := by decide +kernel
/-- the first byte of a number's bytes -/
theorem uv_head {v : Nat} {r : List UInt8} {c : UInt8} {tail : List UInt8} (h : c :: r = uv v ++ tail) : (v < 128 → c.toNat = v ∧ r = tail) ∧ (128 ≤ v → c.toNat = v % 128 + 128 ∧ r = uv (v / 128) ++ tail) := by
  refine ⟨fun hv => ?_, fun hv => ?_⟩
  · rw [uv_small hv] at h; injection h with h1 h2
    exact ⟨by rw [h1, toNat_ofNat (by omega)], h2⟩
  · rw [uv_big hv] at h; injection h with h1 h2
    exact ⟨by rw [h1, toNat_ofNat (by omega)], h2⟩
theorem uv_len1 {v : Nat} (h : v < 128) : (uv v).length = 1 := by rw [uv_small h]; rfl
theorem uv_len2 {v : Nat} (h : 128 ≤ v) : (uv v).length = 1 + (uv (v / 128)).length := by rw [uv_big h, List.length_cons, Nat.add_comm]
theorem pow128 (i : Nat) (h : 9 ≤ i) : 9223372036854775808 ≤ 128 ^ i := by
  have h1 : (128 : Nat) ^ 9 ≤ 128 ^ i := Nat.pow_le_pow_right (by decide) h
  have h2 : (128 : Nat) ^ 9 = 9223372036854775808 := by decide
  omega
theorem nmin_le {a b : Nat} (h : a ≤ b) : nmin a b = a := by
  unfold nmin; rw [(ble_iff a b).2 h]
theorem toU_nat {m : Nat} (h : m < 18446744073709551616) : toU .u64 (Int.ofNat m) = m := Nat.mod_eq_of_lt (by show m < 18446744073709551616; exact h)
theorem or_pow {x d i : Nat} (hi : i ≤ 9) (hx : x < 128 ^ i) (hd : d * 128 ^ i + x < 18446744073709551616) : lorF .u64 (Int.ofNat x) (shlF .u64 (Int.ofNat d) (7 * i)) = Int.ofNat (d * 128 ^ i + x) := by
  have e0 : (2 : Nat) ^ (7 * i) = 128 ^ i := by rw [Nat.pow_mul]
  have e1 : shlF .u64 (Int.ofNat d) (7 * i) = Int.ofNat (d * 128 ^ i) := by
    unfold shlF
    rw [nmin_le (by show 7 * i ≤ 64; omega)]
    have e2 : Nat.shiftLeft 1 (7 * i) = 128 ^ i := by
      show 1 <<< (7 * i) = _
      rw [Nat.shiftLeft_eq, e0, Nat.one_mul]
    rw [e2]
    exact wrapF_nat (kk := .u64) (m := d * 128 ^ i) (by show d * 128 ^ i < 18446744073709551616; omega)
  rw [e1]
  unfold lorF
  rw [toU_nat (by omega), toU_nat (by omega)]
  have e : Nat.lor x (d * 128 ^ i) = d * 128 ^ i + x := by
    have := Nat.shiftLeft_add_eq_or_of_lt (i := 7 * i) (b := x) (by rw [e0]; exact hx) d
    rw [Nat.shiftLeft_eq, e0] at this
    rw [this]; exact Nat.or_comm _ _
  rw [e]
  exact wrapF_nat (kk := .u64) (by show d * 128 ^ i + x < 18446744073709551616; exact hd)
/-- the bytes of c, then those of y ahead -/
theorem uv_up (c y : Nat) (hc : c < 128) (hy : 1 ≤ y) : uv (c + 128 * y) = UInt8.ofNat (c + 128) :: uv y := by
  rw [uv_big (by omega)]
  have e1 : (c + 128 * y) % 128 = c := by omega
  have e2 : (c + 128 * y) / 128 = y := by omega
  rw [e1, e2]
theorem drop_cons {s : List UInt8} {i : Nat} (h : i < s.length) : s.drop i = s[i] :: s.drop (i + 1) := by rw [List.drop_eq_getElem_cons h]
theorem take_snoc {m : List UInt8} {i : Nat} (h : i < m.length) : m.take (i + 1) = m.take i ++ [m[i]] := by rw [List.take_succ_eq_append_getElem h]
abbrev Wt := List UInt8 × List UInt8 × Bool
def wrc (t : Wt) : List AV := [.str (Str.of t.1), .str (Str.of t.2.1), .bool t.2.2]
theorem wrc_len (t : Wt) : (wrc t).length = 3 := rfl
end Go.Am

/- What lays numbers and texts behind bytes. No condition. -/
namespace Go.Proofs.YtcohflkjinpcpaaGreatDoor
open Go Go.Am
set_option linter.all false
set_option maxRecDepth 100000
theorem t27 {x : Nat} {b : List UInt8} {h : H} {a : AV} (hx : x < 9223372036854775808) (s : SlB h a b) (hb : h.base ≤ h.next) (hl : b.length ≤ 140000000000000) {K : AV → H → Prop} (hk : ∀ v h', Row true 5 h.next h' v (b ++ uv x) → Low h.next h h' → K v h') : s27G J0 a (Int.ofNat x) h K := by
  unfold s27G
  refine apB_row (Row.nil true 5 h.next h) hb (Nat.le_refl _) (s.src 5) (by simp [mostRoom]; omega) fun v0 h0 r0 l0 => ?_
  refine lp_rule (fun n v d h' => ∃ y row done, v = (.int .u64 (Int.ofNat y), row, ()) ∧ d = [] ∧ done ++ uv y = uv x ∧ y < 128 ^ (n + 1) ∧ done.length + n ≤ 9 ∧ Row true 5 h.next h' row (b ++ done) ∧ Low h.next h h') ?_ (n := 9) (by unfold fuel; omega) ⟨x, v0, [], rfl, rfl, rfl, Nat.lt_trans hx (by decide), by simp, by simpa using r0, l0⟩
  rintro n self v d h' ⟨y, row, done, rfl, rfl, hd, hy, hn, hr, lo⟩ hs
  have n1 := lo.next
  have b1 := lo.base
  simp only [asI_int, fI_eq, fB_eq]
  refine br_intro (fun hc => ?_) (fun hc => ?_)
  · have hy1 : 128 ≤ y := ge_of_ltI (not_true.1 hc)
    rw [or128_bI]
    refine ap_lit (m := [UInt8.ofNat (y % 128 + 128)]) hr (by omega) n1 (by simp [mostRoom]; omega) fun v1 h1 r1 l1 => ?_
    obtain ⟨n, rfl⟩ : ∃ n', n = n' + 1 := by
      cases n with
      | zero => simp at hy; omega
      | succ n => exact ⟨n, rfl⟩
    have e7 : shrF (Int.ofNat y) (nmin 7 (IntKind.bits .u64)) = Int.ofNat (y / 128) := by
      show Int.ofNat (y >>> 7) = _
      rw [Nat.shiftRight_eq_div_pow]
    rw [e7]
    refine hs n _ _ _ (by omega) ⟨y / 128, v1, done ++ [UInt8.ofNat (y % 128 + 128)], rfl, rfl, ?_, ?_, by simp; omega, by rw [← List.append_assoc]; exact r1, lo.trans l1⟩
    · rw [← hd, uv_big hy1]; simp
    · rw [Nat.div_lt_iff_lt_mul (by decide)]; rw [Nat.pow_succ] at hy; exact hy
  · have hy1 : y < 128 := lt_of_ltI (not_false'.1 hc)
    rw [ofNat_bI]
    refine ap_lit (m := [UInt8.ofNat y]) hr (by omega) n1 (by simp [mostRoom]; omega) fun v1 h1 r1 l1 => ?_
    refine hk _ _ ?_ (lo.trans l1)
    rw [← hd, uv_small hy1, ← List.append_assoc]; exact r1
theorem uv_ten {x : Nat} (h : x < 18446744073709551616) : (uv x).length ≤ 10 := uv_len 9 x (Nat.lt_trans h (by decide))
theorem t28 {b s : List UInt8} {h : H} {a : AV} (q : SlB h a b) (hb : h.base ≤ h.next) (hl : b.length ≤ 100000000000000) (hs : s.length ≤ 10000000000000) {K : AV → H → Prop} (hk : ∀ v h', Row true 5 h.next h' v (b ++ uv s.length ++ s) → Low h.next h h' → K v h') : s28G J0 (s27G J0) a (Str.of s) h K := by
  unfold s28G
  rw [fI_eq, of_len, wrapF_nat (kk := .u64) (by show s.length < 18446744073709551616; omega)]
  refine t27 (by omega) q hb (by omega) fun v h1 r l => ?_
  have := uv_ten (x := s.length) (by omega)
  exact ap_str (m := s) r (by rw [l.base]; exact hb) l.next (by rw [List.length_append]; unfold mostRoom; omega) fun v' h2 r2 l2 => hk _ _ r2 (l.trans l2)
theorem t30r : ∀ (f n x : Nat), n < f → x < 128 ^ (n + 1) → x < 18446744073709551616 → ∀ {h : H} {K : AV → H → Prop}, h.base ≤ h.next → (∀ v h', Row true 5 h.next h' v (uv x) → Low h.next h h' → K v h') → rec30 f (Int.ofNat x) h K
  | 0, n, x, hf, _, _, _, _, _, _ => absurd hf (Nat.not_lt_zero _)
  | f + 1, n, x, hf, hx, hx2, h, K, hb, hk => by
    show s30G J0 (rec30 f) (Int.ofNat x) h K
    unfold s30G
    simp only [fB_eq, fI_eq]
    refine br_intro (fun hc => ?_) (fun hc => ?_)
    · have hy1 : x < 128 := lt_of_ltI hc
      rw [ofNat_bI]
      show op' (asRow true 5 ([UInt8.ofNat x].map fun c => AV.int .u8 (bI c))) _
      rw [asRow_map, op'_some, pushK_is]
      refine hk _ _ ?_ (Low.push _ _ _ (Nat.le_refl _))
      rw [uv_small hy1]; exact Row.push false true (Nat.le_refl _)
    · have hy1 : 128 ≤ x := ge_of_ltI hc
      obtain ⟨n, rfl⟩ : ∃ n', n = n' + 1 := by
        cases n with
        | zero => simp at hx; omega
        | succ n => exact ⟨n, rfl⟩
      refine ck_intro rfl ?_
      have e1 : wrapF .u8 (Int.add (wrapF .u8 (Int.tmod (Int.ofNat x) (Int.ofNat 128))) (Int.ofNat 128)) = bI (UInt8.ofNat (x % 128 + 128)) := by
        have h1 : Int.tmod (Int.ofNat x) (Int.ofNat 128) = Int.ofNat (x % 128) := rfl
        rw [h1, wrapF_nat (kk := .u8) (m := x % 128) (by show x % 128 < 256; omega)]
        show wrapF .u8 (Int.ofNat (x % 128 + 128)) = _
        rw [ofNat_bI]
      rw [e1]
      show op' (asRow true 5 ([UInt8.ofNat (x % 128 + 128)].map fun c => AV.int .u8 (bI c))) _
      rw [asRow_map, op'_some, pushK_is]
      refine ck_intro rfl ?_
      have e2 : wrapF .u64 (Int.tdiv (Int.ofNat x) (Int.ofNat 128)) = Int.ofNat (x / 128) := by
        have h1 : Int.tdiv (Int.ofNat x) (Int.ofNat 128) = Int.ofNat (x / 128) := rfl
        rw [h1]; exact wrapF_nat (kk := .u64) (m := x / 128) (by show x / 128 < 18446744073709551616; omega)
      rw [e2]
      have hx3 : x / 128 < 128 ^ (n + 1) := by rw [Nat.div_lt_iff_lt_mul (by decide)]; rw [Nat.pow_succ] at hx; exact hx
      have hlen := uv_len 9 (x / 128) (Nat.lt_trans (m := 18446744073709551616) (by omega) (by decide))
      refine t30r f n (x / 128) (by omega) hx3 (by omega) (by rw [pushed_base, pushed_next]; omega) fun v h' r l => ?_
      have l0 := Low.push h.next h (.bytes 5 0 false (Str.of [UInt8.ofNat (x % 128 + 128)])) (Nat.le_refl _)
      have r0 : Row true 5 h.next h' (.slice h.next 0 1 1 1 true) [UInt8.ofNat (x % 128 + 128)] := (Row.push false true (Nat.le_refl _)).low l (Nat.le_refl _)
      refine apB_row r0 (by rw [l.base, pushed_base]; exact hb) (by have := l.next; rw [pushed_next] at this; omega) (fun f => srcB_row r f) (by simp [mostRoom]; omega) fun v2 h2 r2 l2 => hk _ _ ?_ ((l0.trans (l.down (by rw [pushed_next]; omega))).trans l2)
      rw [uv_big hy1]; exact r2
theorem t30 {x : Nat} (hx : x < 18446744073709551616) {h : H} {K : AV → H → Prop} (hb : h.base ≤ h.next) (hk : ∀ v h', Row true 5 h.next h' v (uv x) → Low h.next h h' → K v h') : s30 (Int.ofNat x) h K :=
  t30r 64 9 x (by decide) (Nat.lt_trans hx (by decide)) hx hb hk
theorem asRow_nil (e : Nat) : asRow true e [] = some (.bytes e 0 false (Str.of [])) := rfl
theorem t29 {x : Nat} {b : List UInt8} {h : H} {a : AV} (hx : x < 18446744073709551616) (s : SlB h a b) (hb : h.base ≤ h.next) (hl : b.length ≤ 140000000000000) {K : AV → H → Prop} (hk : ∀ v h', Row true 5 h.next h' v (b ++ uv x) → Low h.next h h' → K v h') : s29G J0 s30 a (Int.ofNat x) h K := by
  unfold s29G
  rw [asRow_nil, op'_some, pushK_is]
  have l0 := Low.push h.next h (.bytes 5 0 false (Str.of [])) (Nat.le_refl _)
  have r0 : Row true 5 h.next (pushed h (.bytes 5 0 false (Str.of []))) (.slice h.next 0 0 0 1 true) [] := Row.push (l := []) false true (Nat.le_refl _)
  refine apB_row r0 (by rw [pushed_base]; exact hb) l0.next ((s.low l0 (Nat.le_refl _)).src 5) (by simp [mostRoom]; omega) fun v1 h1 r1 l1 => ?_
  have l01 := l0.trans l1
  have n1 := l01.next
  have b1 := l01.base
  refine t30 hx (by omega) fun v2 h2 r2 l2 => ?_
  have := uv_ten hx
  refine apB_row (r1.low l2 (Nat.le_refl _)) (by rw [l2.base]; omega) (by have := l2.next; omega) (fun f => srcB_row r2 f) (by simp [mostRoom]; omega) fun v3 h3 r3 l3 => hk _ _ ?_ ((l01.trans (l2.down n1)).trans l3)
  simpa using r3
theorem t31 {b s : List UInt8} {h : H} {a : AV} (q : SlB h a b) (hb : h.base ≤ h.next) (hl : b.length ≤ 100000000000000) (hs : s.length ≤ 10000000000000) {K : AV → H → Prop} (hk : ∀ v h', Row true 5 h.next h' v (b ++ uv s.length ++ s) → Low h.next h h' → K v h') : s31G J0 (s29G J0 s30) a (Str.of s) h K := by
  unfold s31G
  rw [fI_eq, of_len, wrapF_nat (kk := .u64) (by show s.length < 18446744073709551616; omega)]
  refine t29 (by omega) q hb (by omega) fun v h1 r l => ?_
  have := uv_ten (x := s.length) (by omega)
  exact ap_str (m := s) r (by rw [l.base]; exact hb) l.next (by rw [List.length_append]; unfold mostRoom; omega) fun v' h2 r2 l2 => hk _ _ r2 (l.trans l2)
end Go.Proofs.YtcohflkjinpcpaaGreatDoor
