/- What the law lends and keeps. No condition. -/
import Derived.Test.YtcohflkjinpcpaaGreatDoorWaO
namespace Go.Am
open Go
set_option linter.all false
/-- a row of records that was made at or above place n -/
def GrowX {α : Type} (f : α → List AV) (e es n : Nat) (h : H) (v : AV) (l : List α) : Prop :=
  (v = .nils ∧ l = []) ∨ ∃ id m ex, v = .slice id 0 l.length l.length es ex ∧ n ≤ id ∧ id < h.next ∧ h.get id = .cells m e (l.flatMap f)
theorem GrowX.row {α : Type} {f : α → List AV} {e es n : Nat} {h : H} {v : AV} {l : List α} (g : GrowX f e es n h v l) : RowAt f es h v l := by
  rcases g with g | ⟨id, m, ex, g1, _, g3, g4⟩
  · exact .inl g
  · exact .inr ⟨id, _, ex, m, e, g1, g4, g3⟩
theorem GrowX.keep {α : Type} {f : α → List AV} {e es n : Nat} {h h' : H} {v : AV} {l : List α} (g : GrowX f e es n h v l) {n' : Nat} (lo : Low n' h h') (hn : h.next ≤ n') : GrowX f e es n h' v l := by
  rcases g with g | ⟨id, m, ex, g1, g2, g3, g4⟩
  · exact .inl g
  · exact .inr ⟨id, m, ex, g1, g2, Nat.lt_of_lt_of_le g3 lo.next, (lo.get id (by omega)).trans g4⟩
end Go.Am
namespace Go.Proofs.YtcohflkjinpcpaaGreatDoor
open Go Go.Am
set_option linter.all false
set_option maxRecDepth 100000
theorem ap_growX {α : Type} {f : α → List AV} {e es bytes n : Nat} {h : H} {v x : AV} {l src : List α} {k : AV → H → Prop} (g : GrowX f e es n h v l) (hf : ∀ a, (f a).length = es) (h1 : ∀ l : List α, allOnes (l.flatMap f) = true)
    (r : RowP f es h x src) (hb : h.base ≤ n) (hn : n ≤ h.next) (hl : (l.length + src.length) * bytes ≤ mostRoom)
    (hk : ∀ v' h', GrowX f e es n h' v' (l ++ src) → Low n h h' → k v' h') : apC e es bytes v x h k := by
  unfold apC
  have hsrc : ∀ F : Nat → List AV → Prop, srcC es x h F = F src.length (src.flatMap f) := fun F => by
    unfold srcC
    rcases r with ⟨rfl, rfl⟩ | ⟨id, c, ex, m, t, rest, rfl, q2, q3⟩
    · rfl
    · simp only [asSl_slice, q2, asRow_cells]
      have hlen := flatMap_len hf src
      have e1 : ltake (Nat.mul src.length es) (ldrop 0 (src.flatMap f ++ rest)) = some (src.flatMap f) := by
        rw [ldrop_is, List.drop_zero, show Nat.mul src.length es = src.length * es from rfl, ← hlen, ltake_some (by simp), List.take_left]
      rw [e1]; rfl
  rw [hsrc]
  rcases g with ⟨rfl, rfl⟩ | ⟨id, m, ex, rfl, g2, g3, g4⟩
  · simp only [asSl_nils]
    refine br_intro (fun h0 => ?_) fun h0 => ck_intro ((ble_iff _ _).2 ?_) ?_
    · rw [Nat.beq_eq] at h0
      obtain rfl := List.length_eq_zero_iff.1 h0
      exact hk _ _ (.inl ⟨rfl, rfl⟩) (Low.refl _ _)
    · have : Nat.mul src.length bytes = src.length * bytes := rfl
      rw [this]; simpa using hl
    · rw [pushK_is]
      refine hk _ _ (.inr ⟨h.next, false, false, rfl, hn, Nat.lt_succ_self _, ?_⟩) (Low.push _ _ _ hn)
      rw [pushed_get, if_pos rfl]; simp
  · simp only [asSl_slice, g4, asRow_cells, fN_eq]
    have hlen := flatMap_len hf l
    have e3 : ltake (Nat.mul l.length es) (ldrop 0 (l.flatMap f)) = some (l.flatMap f) := by
      rw [ldrop_is, List.drop_zero, ltake_some (by rw [hlen]; exact Nat.le_refl _), List.take_of_length_le (by rw [hlen]; exact Nat.le_refl _)]
    refine br_intro (fun h0 => ?_) fun h0 => ck_intro ((ble_iff _ _).2 hl) ?_
    · have h0 : l.length + src.length ≤ l.length := (ble_iff _ _).1 h0
      obtain rfl : src = [] := List.length_eq_zero_iff.1 (by omega)
      refine br_intro (fun _ => ?_) fun h2 => by cases h2
      exact hk _ _ (by rw [List.append_nil]; exact .inr ⟨id, m, ex, rfl, g2, g3, g4⟩) (Low.refl _ _)
    rw [e3, op'_some, lappK_is]
    have ea : Nat.add l.length src.length = (l ++ src).length := by simp
    rw [ea]
    have ef : l.flatMap f ++ src.flatMap f = (l ++ src).flatMap f := by simp
    rw [ef]
    refine br_intro (fun _ => ?_) fun _ => ?_
    · rw [pushK_is]
      exact hk _ _ (.inr ⟨h.next, false, false, rfl, hn, Nat.lt_succ_self _, by rw [pushed_get, if_pos rfl]⟩) (Low.push _ _ _ hn)
    · refine ck_intro ((Nat.beq_eq ▸ rfl : Nat.beq es es = true)) (ck_intro ((Nat.beq_eq ▸ rfl : Nat.beq e e = true)) (ck_intro (h1 src) ?_))
      rw [putK_is _ g3 (by omega), pushK_is]
      have lo : Low n h (pushed (putted h id .dead) (.cells true e ((l ++ src).flatMap f))) := (Low.put .dead g3 g2).trans (Low.push _ _ _ (by rw [putted_next]; exact hn))
      exact hk _ _ (.inr ⟨h.next, true, false, rfl, hn, Nat.lt_succ_self _, by rw [pushed_get, putted_next, if_pos rfl]⟩) lo
theorem eqI_same (n : Int) : eqI n n = true := eqI_true.2 rfl
theorem jb_is0 (j : Bool → AV → Prop) (b : (Bool → AV → Prop) → Prop) : J0.jb j b = b j := rfl
theorem ob_some (b : Bool) (k : Bool → Prop) : obK (some (.bool b)) k = k b := rfl
theorem len_sl (i o n c e : Nat) (x : Bool) (k : Nat → Prop) : lenK (.slice i o n c e x) k = k n := rfl
theorem wrc_all : ∀ l : List Wt, allOnes (l.flatMap wrc) = true
  | [] => rfl
  | t :: l => wrc_all l
def spW : Wt := ([98, 101, 104, 105, 110, 100], [], false)
theorem sp_is : wrc spW = [(AV.str ⟨6, 108187682958948⟩), (.str ⟨0, 0⟩), (.bool false)] := by
  have e : (⟨6, 108187682958948⟩ : Str) = Str.of [98, 101, 104, 105, 110, 100] := by decide +kernel
  rw [e]; rfl
section
variable {KB : Bool → H → Prop} {KV : AV → H → Prop}
/-- lent writes: some more behind them -/
def lentW (l : List Wt) : List Wt := l ++ [spW, spW, spW]
def lentB (b : List UInt8) : List UInt8 := b ++ [201, 202, 203]
theorem t6 {l : List Wt} {v : AV} {h : H} (r : RowP wrc 3 h v l) (hb : h.base ≤ h.next) (hl : l.length ≤ 70) (hk : ∀ v' h', GrowX wrc 53 3 h.next h' v' (lentW l) → Low h.next h h' → KV v' h') : s6G J0 v h KV := by
  unfold s6G
  rw [pushK_is]
  have l2 := Low.push h.next h (.cells false 53 []) (Nat.le_refl _)
  have g2 := new_at h (.cells false 53 [])
  have n2 : (pushed h (.cells false 53 [])).next = h.next + 1 := rfl
  generalize pushed h (.cells false 53 []) = h2 at l2 g2 n2 ⊢
  have b2 := l2.base
  refine ap_growX (l := []) (n := h.next) (.inr ⟨h.next, false, true, rfl, Nat.le_refl _, by omega, g2⟩) wrc_len wrc_all (r.low l2 (Nat.le_refl _)) (by omega) (by omega) (by unfold mostRoom; simp; omega) fun v3 h4 g4 l4 => ?_
  refine lp_for 3 (fun i x h' => ∃ w, x = (w, .int .i64 (Int.ofNat i), ()) ∧ Low h.next h h' ∧ GrowX wrc 53 3 h.next h' w (l ++ List.replicate i spW)) (by decide) ?_ ?_ ⟨v3, rfl, l2.trans l4, by simpa using g4⟩
  · rintro i x h5 self hi ⟨w, rfl, l5, g5⟩ hs
    dsimp only
    have b5 := l5.base
    have n5 := l5.next
    rw [asI_int, fB_eq, lt_ltI hi, br_t]
    refine ck_intro rfl ?_
    show op' (some [(AV.str ⟨6, 108187682958948⟩), (.str ⟨0, 0⟩), (.bool false)]) _
    rw [op'_some, ← sp_is, pushK_is]
    have l6 := Low.push h5.next h5 (.cells false 53 (wrc spW)) (Nat.le_refl _)
    have g6 := new_at h5 (.cells false 53 (wrc spW))
    have n6 : (pushed h5 (.cells false 53 (wrc spW))).next = h5.next + 1 := rfl
    generalize pushed h5 (.cells false 53 (wrc spW)) = h6 at l6 g6 n6 ⊢
    have b6 := l6.base
    refine ap_growX (src := [spW]) (g5.keep l6 (Nat.le_refl _)) wrc_len wrc_all (.inr ⟨h5.next, 1, true, false, 53, [], rfl, by simpa using g6, by omega⟩) (by omega) (by omega) (by unfold mostRoom; rw [List.length_append, List.length_replicate]; simp; omega) fun v7 h7 g7 l7 => ?_
    rw [asI_int, fI_eq, inc_i i (by omega)]
    refine hs _ _ ⟨v7, rfl, (l5.trans (l6.down n5)).trans l7, ?_⟩
    rw [List.replicate_succ', ← List.append_assoc]; exact g7
  · rintro x h5 self ⟨w, rfl, l5, g5⟩
    dsimp only
    rw [asI_int, fB_eq, ge_ltI (Nat.le_refl _), br_f]
    exact hk _ _ g5 l5
theorem t26 {b : List UInt8} {a : AV} {h : H} (q : SlB h a b) (hb : h.base ≤ h.next) (hl : b.length ≤ 140737488351232) (hk : ∀ v' h', Row true 5 h.next h' v' b → Low h.next h h' → KV v' h') : s26G J0 a h KV := by
  unfold s26G
  rw [asRow_nil, op'_some, pushK_is]
  have l0 := Low.push h.next h (.bytes 5 0 false (Str.of [])) (Nat.le_refl _)
  have n0 : (pushed h (.bytes 5 0 false (Str.of []))).next = h.next + 1 := rfl
  have r0 : Row true 5 h.next (pushed h (.bytes 5 0 false (Str.of []))) (.slice h.next 0 0 0 1 true) [] := Row.push (l := []) false true (Nat.le_refl _)
  have b0 := l0.base
  refine apB_row r0 (by omega) (by omega) ((q.low l0 (Nat.le_refl _)).src 5) (by unfold mostRoom; simp; omega) fun v' h' r' l' => ?_
  exact hk _ _ (by simpa using r') (l0.trans l')
theorem t7 {b : List UInt8} {a : AV} {h : H} (q : SlB h a b) (hb : h.base ≤ h.next) (hl : b.length ≤ 140737488351232) (hk : ∀ v' h', Row true 5 h.next h' v' (lentB b) → Low h.next h h' → KV v' h') : s7G J0 (s26G J0) a h KV := by
  unfold s7G
  refine t26 q hb (by omega) fun v2 h2 r2 l2 => ?_
  refine lp_for 3 (fun i x h' => ∃ w, x = (w, .int .i64 (Int.ofNat i), ()) ∧ Low h.next h h' ∧ Row true 5 h.next h' w (b ++ [201, 202, 203].take i)) (by decide) ?_ ?_ ⟨v2, rfl, l2, by simpa using r2⟩
  · rintro i x h5 self hi ⟨w, rfl, l5, g5⟩ hs
    dsimp only
    have b5 := l5.base
    have n5 := l5.next
    rw [asI_int, fB_eq, lt_ltI hi, br_t, asI_int, fI_eq, w8u _ (by omega), fI_eq, add_nat, w8u _ (by omega)]
    have e1 : asRow true 5 [.int .u8 (Int.ofNat (201 + i))] = some (.bytes 5 0 false (Str.of [UInt8.ofNat (201 + i)])) := by
      have := lit1 (UInt8.ofNat (201 + i))
      rwa [toNat_ofNat (by omega)] at this
    rw [e1, op'_some, pushK_is]
    have l6 := Low.push h5.next h5 (.bytes 5 0 false (Str.of [UInt8.ofNat (201 + i)])) (Nat.le_refl _)
    have r6 : Row true 5 h5.next (pushed h5 (.bytes 5 0 false (Str.of [UInt8.ofNat (201 + i)]))) (.slice h5.next 0 1 1 1 true) [UInt8.ofNat (201 + i)] := Row.push (l := [UInt8.ofNat (201 + i)]) false true (Nat.le_refl _)
    have n6 : (pushed h5 (.bytes 5 0 false (Str.of [UInt8.ofNat (201 + i)]))).next = h5.next + 1 := rfl
    have b6 := l6.base
    refine apB_row (g5.low l6 (Nat.le_refl _)) (by omega) (by omega) (fun f => srcB_row r6 f) (by unfold mostRoom; rw [List.length_append, List.length_take]; simp; omega) fun v7 h7 r7 l7 => ?_
    rw [asI_int, fI_eq, inc_i i (by omega)]
    refine hs _ _ ⟨v7, rfl, (l5.trans (l6.down n5)).trans l7, ?_⟩
    have e2 : b ++ [201, 202, 203].take i ++ [UInt8.ofNat (201 + i)] = b ++ ([201, 202, 203] : List UInt8).take (i + 1) := by
      have : i = 0 ∨ i = 1 ∨ i = 2 := by omega
      rcases this with rfl | rfl | rfl <;> simp <;> rfl
    rw [← e2]; exact r7
  · rintro x h5 self ⟨w, rfl, l5, g5⟩
    dsimp only
    rw [asI_int, fB_eq, ge_ltI (Nat.le_refl _), br_f]
    exact hk _ _ g5 l5
/-- bytes that are the same -/
theorem t16 {b : List UInt8} {v w : AV} {h : H} (q : SlB h v b) (q' : SlB h w b) (hl : b.length ≤ 1000000000000000000) (hk : KB true h) : s16G J0 v w h KB := by
  unfold s16G
  rw [q.len, q'.len, fB_eq, eqI_nat, decide_eq_true rfl, Bool.not_true, br_f]
  refine lp_for b.length (fun i x h' => x = (v, w, .int .i64 (Int.ofNat i), ()) ∧ h' = h) (by omega) ?_ ?_ ⟨rfl, rfl⟩
  · rintro i x h' self hi ⟨rfl, rfl⟩ hs
    dsimp only
    obtain ⟨p, p1, p2⟩ := q.at hi
    obtain ⟨p', p1', p2'⟩ := q'.at hi
    rw [q.len, asI_int, fB_eq, lt_ltI hi, br_t, p1, p2 h' _ (fun _ _ => rfl), p1', p2' h' _ (fun _ _ => rfl), fB_eq, eqI_same, Bool.not_true, br_f, asI_int, fI_eq, inc_i i (by omega)]
    exact hs _ _ ⟨rfl, rfl⟩
  · rintro x h' self ⟨rfl, rfl⟩
    dsimp only
    rw [q.len, asI_int, fB_eq, ge_ltI (Nat.le_refl _), br_f]
    exact hk
theorem beq_self' (l : List UInt8) : Str.beq (Str.of l) (Str.of l) = true := by rw [Str.beq_of]; simp
theorem neW (t : Wt) : aBin ty .neq 53 false (.agg (wrc t)) (.agg (wrc t)) = some (.bool false) := by
  have : aBin ty .neq 53 false (.agg (wrc t)) (.agg (wrc t)) = Option.map (fun b => AV.bool (Bool.not b)) (match some (Str.beq (Str.of t.1) (Str.of t.1)) with | some true => (match some (Str.beq (Str.of t.2.1) (Str.of t.2.1)) with | some true => (match some (Bool.rec (Bool.not t.2.2) t.2.2 t.2.2 : Bool) with | some true => some true | some false => some false | none => none) | some false => some false | none => none) | some false => some false | none => none) := rfl
  rw [this]; simp only [beq_self']; cases t.2.2 <;> rfl
theorem t41 {l : List Wt} {v w : AV} {h : H} (q : RowP wrc 3 h v l) (q' : RowP wrc 3 h w l) (hl : l.length ≤ 140737488351232) (hk : KB true h) : s41G J0 v w h KB := by
  unfold s41G
  rw [q.len, q'.len, fB_eq, eqI_nat, decide_eq_true rfl, Bool.not_true, br_f]
  refine lp_for l.length (fun i x h' => x = (v, w, .int .i64 (Int.ofNat i), ()) ∧ h' = h) (by omega) ?_ ?_ ⟨rfl, rfl⟩
  · rintro i x h' self hi ⟨rfl, rfl⟩ hs
    dsimp only
    obtain ⟨id, o, p1, p2, _⟩ := q.rd wrc_len hi
    obtain ⟨id', o', p1', p2', _⟩ := q'.rd wrc_len hi
    rw [q.len, asI_int, fB_eq, lt_ltI hi, br_t, p1, p2 h' _ (fun _ _ => rfl), p1', p2' h' _ (fun _ _ => rfl), neW, ob_some, br_f, asI_int, fI_eq, inc_i i (by omega)]
    exact hs _ _ ⟨rfl, rfl⟩
  · rintro x h' self ⟨rfl, rfl⟩
    dsimp only
    rw [q.len, asI_int, fB_eq, ge_ltI (Nat.le_refl _), br_f]
    exact hk
/-- two batches that are the same, each in a row of its own -/
theorem t17 {l : List Wt} {s : Int} {v w : AV} {i j : Nat} {m m' : Bool} {t t' : Nat} {h : H} (g : h.get i = .cells m t [.int .i64 s, v]) (g' : h.get j = .cells m' t' [.int .i64 s, w]) (q : RowP wrc 3 h v l) (q' : RowP wrc 3 h w l) (hl : l.length ≤ 140737488351232) (hk : KB true h) :
    s17G J0 (s41G J0) (.slice i 0 1 1 2 true) (.slice j 0 1 1 2 true) h KB := by
  unfold s17G
  rw [len_sl, len_sl, fB_eq, show Bool.not (eqI (Int.ofNat 1) (Int.ofNat 1)) = false from rfl, br_f]
  refine lp_for 1 (fun c x h' => x = (.slice i 0 1 1 2 true, .slice j 0 1 1 2 true, .int .i64 (Int.ofNat c), ()) ∧ h' = h) (by decide) ?_ ?_ ⟨rfl, rfl⟩
  · rintro c x h' self hc ⟨rfl, rfl⟩ hs
    obtain rfl : c = 0 := by omega
    dsimp only
    have i1 : ∀ (id : Nat) (k : AV → Prop), ixK 2 (.slice id 0 1 1 2 true) (.int .i64 (Int.ofNat 0)) k = k (.ptr id 0) := fun id k => by rw [ixKn (by decide)]
    have L1 : ∀ k : Nat → Prop, lenK (.slice i 0 1 1 2 true) k = k 1 := fun k => rfl
    have d1 : ∀ k, ldI .i64 (.ptr i (Nat.add 0 0)) h' k = k s := fun k => ldI_at g rfl k
    have d2 : ∀ k, ldI .i64 (.ptr j (Nat.add 0 0)) h' k = k s := fun k => ldI_at g' rfl k
    have d3 : ∀ k, ldV (.ptr i (Nat.add 0 1)) h' k = k v := fun k => ldV_at g rfl k
    have d4 : ∀ k, ldV (.ptr j (Nat.add 0 1)) h' k = k w := fun k => ldV_at g' rfl k
    simp only [↓jb_is0, ↓L1, ↓asI_int, ↓fB_eq, ↓show ltI (Int.ofNat 0) (Int.ofNat 1) = true from rfl, ↓br_t, ↓br_f, ↓i1, ↓faK_ptr, ↓d1, ↓d2, ↓d3, ↓d4, eqI_same, ↓Bool.not_true, ↓jn_is, ↓pickB_t, ↓pickB_f, ↓asB_bool]
    show s41G J0 v w h' _
    refine t41 q q' hl ?_
    simp only [↓asI_int, ↓fB_eq, ↓br_t, ↓br_f, ↓Bool.not_true, ↓jn_is, ↓pickB_t, ↓pickB_f, ↓asB_bool, ↓fI_eq]
    exact hs _ _ ⟨rfl, rfl⟩
  · rintro x h' self ⟨rfl, rfl⟩
    dsimp only
    rw [len_sl, asI_int, fB_eq, ge_ltI (Nat.le_refl _), br_f]
    exact hk
theorem t18 {l : List Wt} {v w : AV} {h : H} (q : RowP wrc 3 h v (lentW l)) (r : RowP wrc 3 h w l) (hb : h.base ≤ h.next) (hl : l.length ≤ 70) (hk : ∀ h', Low h.next h h' → KB true h') : s18G J0 (s6G J0) (s41G J0) v w h KB := by
  unfold s18G
  refine t6 r hb hl fun v' h' g' l' => ?_
  refine t41 (q.low l' (Nat.le_refl _)) (.of g'.row) (by unfold lentW; simp; omega) ?_
  exact hk _ l'
theorem t19 {b : List UInt8} {v w : AV} {h : H} (q : SlB h v (lentB b)) (r : SlB h w b) (hb : h.base ≤ h.next) (hl : b.length ≤ 140737488351232) (hk : ∀ h', Low h.next h h' → KB true h') : s19G J0 (s7G J0 (s26G J0)) (s16G J0) v w h KB := by
  unfold s19G
  refine t7 r hb hl fun v' h' g' l' => ?_
  refine t16 (q.low l' (Nat.le_refl _)) g'.slb (by unfold lentB; simp; omega) ?_
  exact hk _ l'
theorem t5 {l : List Wt} {v : AV} {h : H} (q : RowP wrc 3 h v l) (hl : l.length ≤ 140737488351232) (hk : ∀ b, KB b h) : s5G J0 v h KB := by
  unfold s5G
  refine lp_for l.length (fun i x h' => x = (v, .int .i64 (Int.ofNat i), ()) ∧ h' = h) (by omega) ?_ ?_ ⟨rfl, rfl⟩
  · rintro i x h' self hi ⟨rfl, rfl⟩ hs
    dsimp only
    obtain ⟨id, o, p1, _, p3, _⟩ := q.rd wrc_len hi
    have QL := q.len
    have d1 : ∀ k, ldS (.ptr id (Nat.add o 0)) h' k = k (Str.of l[i].1) := fun k => p3 h' 0 _ k (fun _ _ => rfl) (by decide) rfl
    have d2 : ∀ k, ldS (.ptr id (Nat.add o 1)) h' k = k (Str.of l[i].2.1) := fun k => p3 h' 1 _ k (fun _ _ => rfl) (by decide) rfl
    simp only [↓QL, ↓asI_int, ↓fB_eq, lt_ltI hi, ↓br_t, ↓p1, ↓faK_ptr, ↓d1, of_len]
    cases B1 : ltI (Int.ofNat 600) (Int.ofNat l[i].1.length) <;> cases B2 : ltI (Int.ofNat 600) (Int.ofNat l[i].2.1.length) <;> cases B3 : ltI (Int.ofNat 4096) (Int.ofNat l[i].2.1.length) <;> cases B4 : ltI (Int.ofNat 4105) (Int.ofNat l[i].2.1.length) <;>
      simp only [↓asI_int, ↓fB_eq, ↓br_t, ↓br_f, ↓p1, ↓faK_ptr, ↓d2, of_len, ↓jn_is, ↓pickB_t, ↓pickB_f, ↓asB_bool, ↓asBU_bool, ↓asBU_skip, ↓asS_str, B2, B3, B4, ↓Bool.not_true, ↓Bool.not_false, ↓fI_eq, inc_i i (by omega)] <;>
      first
      | exact hk _
      | exact hs _ _ ⟨rfl, rfl⟩
  · rintro x h' self ⟨rfl, rfl⟩
    dsimp only
    rw [q.len, asI_int, fB_eq, ge_ltI (Nat.le_refl _), br_f]
    exact hk _
end
end Go.Proofs.YtcohflkjinpcpaaGreatDoor
