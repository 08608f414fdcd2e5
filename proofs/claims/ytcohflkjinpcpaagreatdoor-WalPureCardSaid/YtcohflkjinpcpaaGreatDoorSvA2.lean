/- Rows of records that a call reads; loops from 0 to n; calls over lent rows, some of which may be missing. No condition. -/
import Derived.Test.YtcohflkjinpcpaaGreatDoorAmL7
namespace Go.Am
open Go
set_option linter.all false
structure Lease (h0 h : H) (ρ : Nat → Nat) : Prop where
  full : h0.base = h0.next
  rows : ∀ i, i < h0.next → h0.get i = .dead ∨ ∃ m t cs, h0.get i = .cells true t cs ∧ AV.flatL cs = true ∧ h.get (ρ i) = .cells m t cs
/-- r', of which less is told than of r -/
def Less (r r' : AV) : Prop := ∀ (μ : Mu) (v : Value), AV.rel μ r v → AV.rel μ r' v
theorem Less.refl (r : AV) : Less r r := fun _ _ h => h
theorem Lease.none (h : H) (ρ : Nat → Nat) : Lease H0 h ρ := ⟨rfl, fun i hi => absurd hi (Nat.not_lt_zero _)⟩
/-- v: a row of records, each told by f as es cells -/
def RowAt {α : Type} (f : α → List AV) (es : Nat) (h : H) (v : AV) (l : List α) : Prop :=
  (v = .nils ∧ l = []) ∨ ∃ id c ex m t, v = .slice id 0 l.length c es ex ∧ h.get id = .cells m t (l.flatMap f) ∧ id < h.next
theorem RowAt.nil {α : Type} (f : α → List AV) (es : Nat) (h : H) : RowAt f es h .nils [] := .inl ⟨rfl, rfl⟩
theorem RowAt.keep {α : Type} {f : α → List AV} {es : Nat} {h h' : H} {v : AV} {l : List α} (q : RowAt f es h v l) (hl : h.next ≤ h'.next) (hg : ∀ id, id < h.next → h'.get id = h.get id) : RowAt f es h' v l := by
  rcases q with q | ⟨id, c, ex, m, t, q1, q2, q3⟩
  · exact .inl q
  · exact .inr ⟨id, c, ex, m, t, q1, (hg id q3).trans q2, Nat.lt_of_lt_of_le q3 hl⟩
theorem RowAt.low {α : Type} {f : α → List AV} {es : Nat} {h h' : H} {v : AV} {l : List α} (q : RowAt f es h v l) {n : Nat} (lo : Low n h h') (hn : h.next ≤ n) : RowAt f es h' v l :=
  q.keep lo.next fun id hi => lo.get id (by omega)
theorem RowAt.push {α : Type} {f : α → List AV} {es : Nat} {h : H} {v : AV} {l : List α} (q : RowAt f es h v l) (b : Blk) : RowAt f es (pushed h b) v l :=
  q.keep (Nat.le_succ _) fun id hi => by rw [pushed_get, if_neg (by omega)]
theorem RowAt.len {α : Type} {f : α → List AV} {es : Nat} {h : H} {v : AV} {l : List α} (q : RowAt f es h v l) (k : Nat → Prop) : lenK v k = k l.length := by
  rcases q with ⟨rfl, rfl⟩ | ⟨id, c, ex, m, t, rfl, q2, q3⟩ <;> rfl
theorem flatMap_len {α : Type} {f : α → List AV} {es : Nat} (hf : ∀ a, (f a).length = es) : ∀ l : List α, (l.flatMap f).length = l.length * es
  | [] => by simp
  | a :: l => by rw [List.flatMap_cons, List.length_append, hf, flatMap_len hf l, List.length_cons, Nat.add_mul]; omega
theorem flatMap_drop {α : Type} {f : α → List AV} {es : Nat} (hf : ∀ a, (f a).length = es) : ∀ (l : List α) (i : Nat), (l.flatMap f).drop (i * es) = (l.drop i).flatMap f
  | l, 0 => by simp
  | [], i + 1 => by simp
  | a :: l, i + 1 => by
    rw [List.flatMap_cons, show (i + 1) * es = (f a).length + i * es from by rw [hf, Nat.add_mul]; omega, List.drop_length_add_append, flatMap_drop hf l i]; rfl
theorem flatMap_at {α : Type} {f : α → List AV} {es : Nat} (hf : ∀ a, (f a).length = es) (l : List α) {i : Nat} (hi : i < l.length) : ((l.flatMap f).drop (i * es)).take es = f l[i] := by
  rw [flatMap_drop hf, List.drop_eq_getElem_cons hi, List.flatMap_cons, ← hf l[i], List.take_left']
  rfl
theorem ltake_some {α : Type} {l : List α} {n : Nat} (h : n ≤ l.length) : ltake n l = some (l.take n) := by rw [ltake_eq, if_pos h]
theorem ldrop_is {α : Type} (l : List α) (n : Nat) : ldrop n l = l.drop n := ldrop_eq n l
theorem ixKn {id len cap es i : Nat} {ex : Bool} {kk : IntKind} (hi : i < len) (k : AV → Prop) : ixK es (.slice id 0 len cap es ex) (.int kk (Int.ofNat i)) k = k (.ptr id (i * es)) := by
  show ck (Nat.blt i len) (fN (Nat.add 0 (Nat.mul i es)) fun o => k (.ptr id o)) = _
  rw [(blt_iff _ _).2 hi, fN_eq]
  have e : Nat.add 0 (Nat.mul i es) = i * es := by show 0 + i * es = i * es; omega
  rw [e]; rfl
theorem RowAt.ix {α : Type} {f : α → List AV} {es : Nat} (hf : ∀ a, (f a).length = es) {h : H} {v : AV} {l : List α} (q : RowAt f es h v l) {i : Nat} (hi : i < l.length) :
    ∃ id o m t cs, (∀ (kk : IntKind) (k : AV → Prop), ixK es v (.int kk (Int.ofNat i)) k = k (.ptr id o)) ∧ h.get id = .cells m t cs ∧ id < h.next ∧ ltake es (ldrop o cs) = some (f l[i]) := by
  rcases q with ⟨rfl, rfl⟩ | ⟨id, c, ex, m, t, rfl, q2, q3⟩
  · simp at hi
  · refine ⟨id, i * es, m, t, _, fun kk k => ixKn hi k, q2, q3, ?_⟩
    rw [ldrop_is, ltake_some, flatMap_at hf l hi]
    rw [List.length_drop, flatMap_len hf]
    have : (i + 1) * es ≤ l.length * es := Nat.mul_le_mul_right es hi
    rw [Nat.add_mul] at this; omega
/-- an element's cells are read whole -/
theorem RowAt.rd {α : Type} {f : α → List AV} {es : Nat} (hf : ∀ a, (f a).length = es) {h : H} {v : AV} {l : List α} (q : RowAt f es h v l) {i : Nat} (hi : i < l.length) :
    ∃ p, (∀ (kk : IntKind) (k : AV → Prop), ixK es v (.int kk (Int.ofNat i)) k = k p) ∧ ∀ (h' : H) (k : List AV → Prop), (∀ id, id < h.next → h'.get id = h.get id) → ldN es p h' k = k (f l[i]) := by
  obtain ⟨id, o, m, t, cs, q1, q2, q3, q4⟩ := q.ix hf hi
  exact ⟨.ptr id o, q1, fun h' k hg => ldN_at ((hg id q3).trans q2) q4 k⟩
def Lent1 (h : H) (B : Blk) (id : Nat) : Prop := B = .dead ∨ ∃ m t cs, B = .cells true t cs ∧ AV.flatL cs = true ∧ h.get id = .cells m t cs
theorem Lent1.dead (h : H) : Lent1 h .dead 0 := .inl rfl
theorem flatL_map {α : Type} {f : α → List AV} (hf : ∀ a, AV.flatL (f a) = true) : ∀ l : List α, AV.flatL (l.flatMap f) = true
  | [] => rfl
  | a :: l => by
    have app : ∀ (x y : List AV), AV.flatL x = true → AV.flatL y = true → AV.flatL (x ++ y) = true := fun x => by
      induction x with
      | nil => intro y _ h; exact h
      | cons c x ih =>
        intro y h1 h2
        simp only [AV.flatL, List.cons_append, Bool.and_eq_true] at h1 ⊢
        exact ⟨h1.1, ih y h1.2 h2⟩
    rw [List.flatMap_cons]
    exact app _ _ (hf a) (flatL_map hf l)
/-- a row, as it stands in the small heap at place i -/
theorem RowAt.take {α : Type} {f : α → List AV} {es : Nat} {h : H} {v : AV} {l : List α} (q : RowAt f es h v l) (i : Nat) (hf : ∀ a, AV.flatL (f a) = true) :
    ∃ (v0 : AV) (B : Blk) (id : Nat), Lent1 h B id ∧ (∀ ρ : Nat → Nat, ρ i = id → v0.ren ρ = v) ∧ (∀ h0 : H, h0.get i = B → i < h0.next → RowAt f es h0 v0 l) ∧ (∀ n, i < n → v0.under n) := by
  rcases q with ⟨rfl, rfl⟩ | ⟨id, c, ex, m, t, rfl, q2, q3⟩
  · exact ⟨.nils, .dead, 0, .inl rfl, fun _ _ => by simp [AV.ren], fun _ _ _ => .inl ⟨rfl, rfl⟩, fun _ _ => by simp [AV.under]⟩
  · exact ⟨.slice i 0 l.length c es ex, .cells true t (l.flatMap f), id, .inr ⟨m, t, _, rfl, flatL_map hf l, q2⟩, fun ρ e => by simp [AV.ren, e], fun h0 e1 e2 => .inr ⟨i, c, ex, true, t, rfl, e1, e2⟩, fun n hn => by simpa [AV.under] using hn⟩
theorem lp_for {α : Type} {body : (α → List Dfr → H → Prop) → α → List Dfr → H → Prop} (n : Nat) (I : Nat → α → H → Prop) (hn : n ≤ 4000000000000000000)
    (step : ∀ i x h self, i < n → I i x h → (∀ x' h', I (i + 1) x' h' → self x' [] h') → body self x [] h)
    (last : ∀ x h self, I n x h → body self x [] h) {x : α} {h : H} (h0 : I 0 x h) : J0.lp body x [] h := by
  refine lp_rule (fun m x d h => ∃ i, i ≤ n ∧ m = n - i ∧ d = [] ∧ I i x h) ?_ (n := n) (by unfold fuel; omega) ⟨0, Nat.zero_le _, rfl, rfl, h0⟩
  rintro m self x d h ⟨i, hi, rfl, rfl, hI⟩ hs
  rcases Nat.lt_or_ge i n with hlt | hge
  · exact step i x h self hlt hI fun x' h' hI' => hs (n - (i + 1)) x' [] h' (by omega) ⟨i + 1, hlt, rfl, rfl, hI'⟩
  · obtain rfl : i = n := by omega
    exact last x h self hI
theorem lt_ltI {a b : Nat} (h : a < b) : ltI (Int.ofNat a) (Int.ofNat b) = true := ltI_true.2 (by show (a : Int) < (b : Int); omega)
theorem ge_ltI {a b : Nat} (h : b ≤ a) : ltI (Int.ofNat a) (Int.ofNat b) = false := ltI_false.2 (by show (b : Int) ≤ (a : Int); omega)
theorem inc_i (i : Nat) (h : i < 9000000000000000000) : wrapF .i64 (Int.add (Int.ofNat i) (Int.ofNat 1)) = Int.ofNat (i + 1) := by
  have : Int.add (Int.ofNat i) (Int.ofNat 1) = Int.ofNat (i + 1) := rfl
  rw [this]; exact wrapF_nat (kk := .i64) (by show i + 1 < 9223372036854775808; omega)
theorem dec_i (i : Nat) (h : i < 9000000000000000000) : wrapF .i64 (Int.sub (Int.ofNat (i + 1)) (Int.ofNat 1)) = Int.ofNat i := by
  have : Int.sub (Int.ofNat (i + 1)) (Int.ofNat 1) = Int.ofNat i := by
    show ((i + 1 : Nat) : Int) - ((1 : Nat) : Int) = (i : Int); omega
  rw [this]; exact wrapF_nat (kk := .i64) (by show i < 9223372036854775808; omega)
theorem beq_nil (l : List UInt8) : Str.beq (Str.of l) ⟨0, 0⟩ = decide (l = []) := by
  have h : Str.beq (Str.of l) (Str.of []) = (l == []) := Str.beq_of l []
  have h2 : Str.beq (Str.of l) ⟨0, 0⟩ = (l == []) := h
  rw [h2]; cases l <;> rfl
end Go.Am

/- Rows that a call makes, element by element. No condition. -/
namespace Go.Am
open Go
set_option linter.all false
/-- v: a row of records that was made at or above place n -/
def Grow {α : Type} (f : α → List AV) (e es n : Nat) (h : H) (v : AV) (l : List α) : Prop :=
  (v = .nils ∧ l = []) ∨ ∃ id m, v = .slice id 0 l.length l.length es false ∧ n ≤ id ∧ id < h.next ∧ h.get id = .cells m e (l.flatMap f)
theorem Grow.nil {α : Type} (f : α → List AV) (e es n : Nat) (h : H) : Grow f e es n h .nils [] := .inl ⟨rfl, rfl⟩
theorem Grow.row {α : Type} {f : α → List AV} {e es n : Nat} {h : H} {v : AV} {l : List α} (g : Grow f e es n h v l) : RowAt f es h v l := by
  rcases g with g | ⟨id, m, g1, _, g3, g4⟩
  · exact .inl g
  · exact .inr ⟨id, _, false, m, e, g1, g4, g3⟩
theorem Grow.keep {α : Type} {f : α → List AV} {e es n : Nat} {h h' : H} {v : AV} {l : List α} (g : Grow f e es n h v l) {n' : Nat} (lo : Low n' h h') (hn : h.next ≤ n') : Grow f e es n h' v l := by
  rcases g with g | ⟨id, m, g1, g2, g3, g4⟩
  · exact .inl g
  · exact .inr ⟨id, m, g1, g2, Nat.lt_of_lt_of_le g3 lo.next, (lo.get id (by omega)).trans g4⟩
theorem lappK_is : ∀ (x y : List AV) (k : List AV → Prop), lappK x y k = k (x ++ y)
  | [], y, k => rfl
  | a :: x, y, k => by
    show lappK x y (fun r => k (a :: r)) = _
    rw [lappK_is x y]; rfl
theorem ap_grow {α : Type} {f : α → List AV} {e es bytes n : Nat} {h : H} {v : AV} {l : List α} {a : α} {j c tj : Nat} {mj ex : Bool} {k : AV → H → Prop} (g : Grow f e es n h v l) (hf : ∀ a, (f a).length = es) (h1 : ∀ a, allOnes (f a) = true)
    (hj : h.get j = .cells mj tj (f a)) (hb : h.base ≤ n) (hn : n ≤ h.next) (hl : (l.length + 1) * bytes ≤ mostRoom)
    (hk : ∀ v' h', Grow f e es n h' v' (l ++ [a]) → Low n h h' → k v' h') : apC e es bytes v (.slice j 0 1 c es ex) h k := by
  unfold apC srcC
  simp only [asSl_slice, hj, asRow_cells]
  have e1 : ltake (Nat.mul 1 es) (ldrop 0 (f a)) = some (f a) := by
    rw [ldrop_is, List.drop_zero, show Nat.mul 1 es = es from Nat.one_mul es, ltake_some (by rw [hf]; exact Nat.le_refl _), List.take_of_length_le (by rw [hf]; exact Nat.le_refl _)]
  rw [e1, op'_some]
  rcases g with ⟨rfl, rfl⟩ | ⟨id, m, rfl, g2, g3, g4⟩
  · simp only [asSl_nils]
    rw [show Nat.beq 1 0 = false from rfl, br_f]
    refine ck_intro ((ble_iff _ _).2 ?_) ?_
    · simpa using hl
    · rw [pushK_is]
      refine hk _ _ (.inr ⟨h.next, false, rfl, hn, Nat.lt_succ_self _, ?_⟩) (Low.push _ _ _ hn)
      rw [pushed_get, if_pos rfl]; simp
  · simp only [asSl_slice, g4, asRow_cells, fN_eq]
    rw [show Nat.add l.length 1 = l.length + 1 from rfl]
    have e2 : Nat.ble (l.length + 1) l.length = false := by
      cases q : Nat.ble (l.length + 1) l.length
      · rfl
      · rw [ble_iff] at q; omega
    rw [e2, br_f]
    have hlen := flatMap_len hf l
    have e3 : ltake (Nat.mul l.length es) (ldrop 0 (l.flatMap f)) = some (l.flatMap f) := by
      rw [ldrop_is, List.drop_zero, ltake_some (by rw [hlen]; exact Nat.le_refl _), List.take_of_length_le (by rw [hlen]; exact Nat.le_refl _)]
    refine ck_intro ((ble_iff _ _).2 hl) ?_
    rw [e3, op'_some, lappK_is, br_f]
    refine ck_intro ((Nat.beq_eq ▸ rfl : Nat.beq es es = true)) (ck_intro ((Nat.beq_eq ▸ rfl : Nat.beq e e = true)) (ck_intro (h1 a) ?_))
    rw [putK_is _ g3 (by omega), pushK_is]
    have lo : Low n h (pushed (putted h id .dead) (.cells true e (l.flatMap f ++ f a))) := (Low.put .dead g3 g2).trans (Low.push _ _ _ (by rw [putted_next]; exact hn))
    refine hk _ _ (.inr ⟨h.next, true, ?_, hn, Nat.lt_succ_self _, ?_⟩) lo
    · rw [List.length_append]; rfl
    · rw [pushed_get, putted_next, if_pos rfl]; simp
theorem set_sing (a b : Blk) : ∀ (f k : Nat), k ≤ f → Tr.set (Tr.sing a f k) k b = Tr.sing b f k
  | 0, 0, _ => rfl
  | f + 1, 0, _ => rfl
  | 0, k + 1, h => by omega
  | f + 1, k + 1, h => by
    rw [Tr.sing_succ, Tr.sing_succ]
    by_cases e : k % 2 = 0
    · rw [if_pos e, if_pos e, Tr.set_nd_succ, if_pos e, set_sing a b f (k / 2) (by omega)]
    · rw [if_neg e, if_neg e, Tr.set_nd_succ, if_neg e, set_sing a b f (k / 2) (by omega)]
theorem set_set (a b : Blk) : ∀ (t : Tr) (k : Nat), Tr.set (Tr.set t k a) k b = Tr.set t k b
  | .lf, k => set_sing a b k k (Nat.le_refl k)
  | .nd v l r, 0 => rfl
  | .nd v l r, k + 1 => by
    rw [Tr.set_nd_succ, Tr.set_nd_succ]
    by_cases e : k % 2 = 0
    · rw [if_pos e, if_pos e, Tr.set_nd_succ, if_pos e, set_set a b l (k / 2)]
    · rw [if_neg e, if_neg e, Tr.set_nd_succ, if_neg e, set_set a b r (k / 2)]
theorem put_push (h : H) (b c : Blk) : putted (pushed h b) h.next c = pushed h c := by
  show (⟨Tr.set (Tr.set h.mem h.next b) h.next c, Nat.succ h.next, h.base⟩ : H) = ⟨Tr.set h.mem h.next c, Nat.succ h.next, h.base⟩
  rw [set_set]
theorem get_new (h : H) (b : Blk) : (pushed h b).get h.next = b := by rw [pushed_get, if_pos rfl]
theorem stN_new {h : H} {o n : Nat} {m : Bool} {t : Nat} {cs cs' xs : List AV} (h0 : xs.length = n) (h1 : allOnes xs = true) (e : lputAt o xs cs = some cs') (hb : h.base ≤ h.next) (k : H → Prop) :
    stN n (.ptr h.next o) xs (pushed h (.cells m t cs)) k = k (pushed h (.cells m t cs')) := by
  rw [stN_at (get_new h _) h0 h1 e (Nat.lt_succ_self _) hb, put_push]
theorem st2_new {h : H} {m : Bool} {t : Nat} {a b x y : AV} (h1 : allOnes [x, y] = true) (hb : h.base ≤ h.next) (k : H → Prop) : stN 2 (.ptr h.next 0) [x, y] (pushed h (.cells m t [a, b])) k = k (pushed h (.cells m t [x, y])) :=
  stN_new (n := 2) rfl h1 rfl hb k
theorem st3_new {h : H} {m : Bool} {t : Nat} {a b c x y z : AV} (h1 : allOnes [x, y, z] = true) (hb : h.base ≤ h.next) (k : H → Prop) : stN 3 (.ptr h.next 0) [x, y, z] (pushed h (.cells m t [a, b, c])) k = k (pushed h (.cells m t [x, y, z])) :=
  stN_new (n := 3) rfl h1 rfl hb k
theorem ld3_new {h : H} {m : Bool} {t : Nat} {x y z : AV} (k : List AV → Prop) : ldN 3 (.ptr h.next 0) (pushed h (.cells m t [x, y, z])) k = k [x, y, z] := ldN_at (get_new h _) rfl k
end Go.Am
