/- The readers of the layer of versions: each told by what it reads of what was laid down; of what was not, only that it answers. No condition. -/
import Derived.Test.YtlbigopkplckaaaRdA
namespace Go.Proofs.Ytlbigopkplckaaa
open Go Go.Am
set_option linter.all false
set_option maxRecDepth 100000
/-- a reader: what is left, and whether something was wrong -/
def rdC (rest : List UInt8) (bad : Bool) : List AV := [.str (Str.of rest), .bool bad]
theorem rdC_flat (rest : List UInt8) (bad : Bool) : AV.flatL (rdC rest bad) = true := rfl
/-- a reader stands at place id -/
def RdAt (h : H) (id T : Nat) (rest : List UInt8) (bad : Bool) : Prop := h.base ≤ id ∧ h.get id = .cells false T (rdC rest bad)
noncomputable def rdH (T : Nat) (rest : List UInt8) (bad : Bool) : H := hOne (.cells false T (rdC rest bad))
theorem rdH_get (T : Nat) (rest : List UInt8) (bad : Bool) : (rdH T rest bad).get 0 = .cells false T (rdC rest bad) := rfl
section
variable {K : Str → H → Prop}
/-- so many bytes -/
def BytP (rest : List UInt8) (bad : Bool) (m : Nat) (out rest' : List UInt8) (bad' : Bool) : Prop :=
  (bad = false ∧ m ≤ rest.length ∧ out = rest.take m ∧ rest' = rest.drop m ∧ bad' = false) ∨ ((bad = true ∨ rest.length < m) ∧ out = [] ∧ rest' = rest ∧ bad' = true)
theorem t58 {T m : Nat} {rest : List UInt8} {bad : Bool} (hk : ∀ out rest' bad' h1, BytP rest bad m out rest' bad' → h1.get 0 = .cells false T (rdC rest' bad') → h1.base = 0 → h1.next = 1 → K (Str.of out) h1) : s58G J0 (.ptr 0 0) (Int.ofNat m) (rdH T rest bad) K := by
  unfold s58G
  rw [okNil_ptr, faK_ptr, ldB_at (rdH_get T rest bad) (x := bad) rfl]
  have fail : (bad = true ∨ rest.length < m) → stV (.ptr 0 1) (.bool true) (rdH T rest bad) fun h32 => K ⟨0, 0⟩ h32 := fun hb => by
    rw [stV_at (rdH_get T rest bad) rfl (cs' := rdC rest true) rfl Nat.one_pos (Nat.zero_le _)]
    exact hk [] rest true _ (.inr ⟨hb, rfl, rfl, rfl⟩) rfl rfl rfl
  cases bad with
  | true =>
    simp only [↓jn_is, ↓br_t, ↓br_f, ↓pickB_t, ↓pickB_f, ↓asB_bool, ↓asI_int, ↓okNil_ptr, ↓faK_ptr]
    exact fail (.inl rfl)
  | false =>
    simp only [↓jn_is, ↓br_t, ↓br_f, ↓pickB_t, ↓pickB_f, ↓asB_bool, ↓asI_int, ↓asS_str, ↓okNil_ptr, ↓faK_ptr]
    rw [ldS_at (rdH_get T rest false) (x := Str.of rest) rfl]
    rw [fB_eq]
    by_cases hm : rest.length < m
    · have c : ltI (Int.ofNat (Str.of rest).len) (Int.ofNat m) = true := lt_ltI hm
      rw [c]
      simp only [↓br_t, ↓br_f, ↓pickB_t, ↓pickB_f, ↓asB_bool, ↓okNil_ptr, ↓faK_ptr]
      exact fail (.inr hm)
    · have c : ltI (Int.ofNat (Str.of rest).len) (Int.ofNat m) = false := ge_ltI (by show m ≤ rest.length; omega)
      have hm : m ≤ rest.length := by omega
      rw [c]
      simp only [↓br_t, ↓br_f, ↓pickB_t, ↓pickB_f, ↓asB_bool, ↓okNil_ptr, ↓faK_ptr]
      rw [ldS_at (rdH_get T rest false) (x := Str.of rest) rfl, subK_lo hm]
      rw [ldS_at (rdH_get T rest false) (x := Str.of rest) rfl, subK_hi hm]
      rw [stV_at (rdH_get T rest false) rfl (cs' := rdC (rest.drop m) false) rfl Nat.one_pos (Nat.zero_le _)]
      exact hk _ _ _ _ (.inl ⟨rfl, hm, rfl, rfl, rfl⟩) rfl rfl rfl
theorem t62 {T m : Nat} {rest : List UInt8} {bad : Bool} (hk : ∀ out rest' bad' h1, BytP rest bad m out rest' bad' → h1.get 0 = .cells false T (rdC rest' bad') → h1.base = 0 → h1.next = 1 → K (Str.of out) h1) : s62G J0 (.ptr 0 0) (Int.ofNat m) (rdH T rest bad) K := by
  unfold s62G
  rw [okNil_ptr, faK_ptr, ldB_at (rdH_get T rest bad) (x := bad) rfl]
  have fail : (bad = true ∨ rest.length < m) → stV (.ptr 0 1) (.bool true) (rdH T rest bad) fun h32 => K ⟨0, 0⟩ h32 := fun hb => by
    rw [stV_at (rdH_get T rest bad) rfl (cs' := rdC rest true) rfl Nat.one_pos (Nat.zero_le _)]
    exact hk [] rest true _ (.inr ⟨hb, rfl, rfl, rfl⟩) rfl rfl rfl
  cases bad with
  | true =>
    simp only [↓jn_is, ↓br_t, ↓br_f, ↓pickB_t, ↓pickB_f, ↓asB_bool, ↓asI_int, ↓okNil_ptr, ↓faK_ptr]
    exact fail (.inl rfl)
  | false =>
    simp only [↓jn_is, ↓br_t, ↓br_f, ↓pickB_t, ↓pickB_f, ↓asB_bool, ↓asI_int, ↓asS_str, ↓okNil_ptr, ↓faK_ptr]
    rw [ldS_at (rdH_get T rest false) (x := Str.of rest) rfl]
    rw [fB_eq]
    by_cases hm : rest.length < m
    · have c : ltI (Int.ofNat (Str.of rest).len) (Int.ofNat m) = true := lt_ltI hm
      rw [c]
      simp only [↓br_t, ↓br_f, ↓pickB_t, ↓pickB_f, ↓asB_bool, ↓okNil_ptr, ↓faK_ptr]
      exact fail (.inr hm)
    · have c : ltI (Int.ofNat (Str.of rest).len) (Int.ofNat m) = false := ge_ltI (by show m ≤ rest.length; omega)
      have hm : m ≤ rest.length := by omega
      rw [c]
      simp only [↓br_t, ↓br_f, ↓pickB_t, ↓pickB_f, ↓asB_bool, ↓okNil_ptr, ↓faK_ptr]
      rw [ldS_at (rdH_get T rest false) (x := Str.of rest) rfl, subK_lo hm]
      rw [ldS_at (rdH_get T rest false) (x := Str.of rest) rfl, subK_hi hm]
      rw [stV_at (rdH_get T rest false) rfl (cs' := rdC (rest.drop m) false) rfl Nat.one_pos (Nat.zero_le _)]
      exact hk _ _ _ _ (.inl ⟨rfl, hm, rfl, rfl, rfl⟩) rfl rfl rfl
/-- the summary: whatever is read so -/
noncomputable def pByt : AV → Int → H → (Str → H → Prop) → Prop := fun a n h k => ∃ (id T m : Nat) (rest : List UInt8) (bad : Bool), a = .ptr id 0 ∧ n = Int.ofNat m ∧ RdAt h id T rest bad ∧
  ∀ out rest' bad', BytP rest bad m out rest' bad' → k (Str.of out) (putted h id (.cells false T (rdC rest' bad')))
/-! ## a key -/
/-- what is read of a byte and a key's middle -/
def OfP (c : UInt8) (rest : List UInt8) (bad : Bool) (out rest' : List UInt8) (bad' : Bool) : Prop := ∀ key tail, bad = false → rest = c :: (mid key ++ tail) → out = key ∧ rest' = tail ∧ bad' = false
theorem RdAt.low {h h' : H} {id T n : Nat} {rest : List UInt8} {bad : Bool} (r : RdAt h id T rest bad) (l : Low n h h') (hn : id < n) : RdAt h' id T rest bad := ⟨by rw [l.base]; exact r.1, by rw [l.get id hn]; exact r.2⟩
theorem RdAt.lt {h : H} {id T : Nat} {rest : List UInt8} {bad : Bool} (r : RdAt h id T rest bad) : id < h.next := H.lt_of_live (by rw [r.2]; rfl)
theorem RdAt.put {h : H} {id T : Nat} {rest : List UInt8} {bad : Bool} (r : RdAt h id T rest bad) (rest' : List UInt8) (bad' : Bool) : RdAt (putted h id (.cells false T (rdC rest' bad'))) id T rest' bad' :=
  ⟨r.1, by rw [putted_get _ _ _ r.lt, if_pos rfl]⟩
/-- a row that lies above the reader -/
theorem Row.puts {g : Bool} {e n id : Nat} {h : H} {v : AV} {l : List UInt8} (r : Row g e n h v l) (hid : id < h.next) (hn : id < n) (b : Blk) : Row g e n (putted h id b) v l := by
  rcases r with r | ⟨i, ex, sg, r1, r2, r3, r4, r5⟩
  · exact .inl r
  · exact .inr ⟨i, ex, sg, r1, r2, r3, by rw [putted_get _ _ _ hid, if_neg (by omega)]; exact r4, r5⟩
theorem byt1 {rest out rest' : List UInt8} {bad bad' : Bool} (h : BytP rest bad 1 out rest' bad') : (∃ x, bad = false ∧ rest = x :: rest' ∧ out = [x] ∧ bad' = false) ∨ ((bad = true ∨ rest = []) ∧ out = [] ∧ rest' = rest ∧ bad' = true) := by
  rcases h with ⟨h1, h2, rfl, rfl, h5⟩ | ⟨h1, h2, h3, h4⟩
  · cases rest with
    | nil => simp at h2
    | cons x r => exact .inl ⟨x, h1, rfl, rfl, h5⟩
  · refine .inr ⟨?_, h2, h3, h4⟩
    rcases h1 with h1 | h1
    · exact .inl h1
    · exact .inr (List.length_eq_zero_iff.1 (by omega))
theorem t32 {T : Nat} {c : UInt8} {rest : List UInt8} {bad : Bool} (hl : rest.length ≤ 140737488351232) (hk : ∀ out rest' bad' h1, OfP c rest bad out rest' bad' → rest'.length ≤ rest.length → h1.get 0 = .cells false T (rdC rest' bad') → h1.base = 0 → K (Str.of out) h1) :
    s32G J0 pByt (.ptr 0 0) ⟨1, c.toNat⟩ (rdH T rest bad) K := by
  unfold s32G
  rw [of_one]
  have loop : ∀ (r0 : List UInt8) (b0 : Bool) (h : H), RdAt h 0 T r0 b0 → h.base = 0 → r0.length ≤ rest.length → (∀ key tail, bad = false → rest = c :: (mid key ++ tail) → b0 = false ∧ r0 = mid key ++ tail) →
      J0.lp (α := AV × AV × Unit) (fun r8 v5 d6 h7 =>
        okNil v5.1 (
        faK 1 v5.1 fun p9 =>
        ldB p9 h7 fun b10 =>
        fB (Bool.not b10) fun b11 =>
        br b11 (
        pByt v5.1 (Int.ofNat 1) h7 fun s13 h12 =>
        fB (Bool.not (Str.beq s13 (⟨1, 0⟩ : Str))) fun b14 =>
        br b14 (
        apB .str 5 v5.2.1 (AV.str s13) h12 fun v15 h16 =>
        r8 (v5.1, v15, ()) d6 h16) (
        pByt v5.1 (Int.ofNat 1) h12 fun s18 h17 =>
        fB (Str.beq s18 (⟨1, 255⟩ : Str)) fun b19 =>
        br b19 (
        op' (asRow true 5 [(AV.int .u8 (Int.ofNat 0))]) fun k22 =>
        pushK k22 h17 fun n20 h21 =>
        apB (.slice 5) 5 v5.2.1 (AV.slice n20 0 1 1 1 true) h21 fun v23 h24 =>
        r8 (v5.1, v23, ()) d6 h24) (
        fB (Str.beq s18 (⟨1, 1⟩ : Str)) fun b25 =>
        br b25 (
        toStrK v5.2.1 h17 fun s26 =>
        leaveK (gam J0 [(58, w58 pByt)]) d6 h17 fun h27 =>
        K s26 h27) (
        okNil v5.1 (
        faK 1 v5.1 fun p28 =>
        stV p28 (AV.bool true) h17 fun h29 =>
        r8 (v5.1, v5.2.1, ()) d6 h29))))) (
        leaveK (gam J0 [(58, w58 pByt)]) d6 h7 fun h30 =>
        K ⟨0, 0⟩ h30))) (AV.ptr 0 0, AV.nils, ()) [] h := by
    intro r0 b0 h hR hb hlen hfit
    refine lp_rule (fun n v d h' => ∃ row acc r b, v = (.ptr 0 0, row, ()) ∧ d = [] ∧ RdAt h' 0 T r b ∧ h'.base = 0 ∧ Row true 5 1 h' row acc ∧ r.length ≤ r0.length ∧ acc.length + r.length ≤ r0.length ∧ n = r.length + cond b 0 1 ∧ (∀ key tail, bad = false → rest = c :: (mid key ++ tail) → b = false ∧ ∃ k2, key = acc ++ k2 ∧ r = mid k2 ++ tail)) ?_
      (n := r0.length + cond b0 0 1) (by unfold fuel; cases b0 <;> simp <;> omega) ⟨.nils, [], r0, b0, rfl, rfl, hR, hb, Row.nil _ _ _ _, Nat.le_refl _, by simp, rfl, fun key tail h1 h2 => ⟨(hfit key tail h1 h2).1, key, rfl, (hfit key tail h1 h2).2⟩⟩
    rintro n self v d h' ⟨row, acc, r, b, rfl, rfl, hR, hb, hrow, hrl, hal, rfl, hfit⟩ hs
    have hlt := hR.lt
    simp only [okNil_ptr, faK_ptr]
    rw [ldB_at hR.2 (x := b) rfl, fB_eq]
    cases b with
    | true =>
      rw [Bool.not_true, br_f]
      refine hk [] r true h' (fun key tail h1 h2 => ?_) (by omega) hR.2 hb
      exact absurd (hfit key tail h1 h2).1 (by decide)
    | false =>
      rw [Bool.not_false, br_t]
      refine ⟨0, T, 1, r, false, rfl, rfl, hR, fun out r1 b1 hB => ?_⟩
      dsimp only
      have hR1 := hR.put r1 b1
      have hrow1 := Row.puts hrow (id := 0) hlt Nat.one_pos (.cells false T (rdC r1 b1))
      rw [show ({ len := 1, val := 0 } : Str) = Str.of [0] from rfl, beq_lit, fB_eq]
      rcases byt1 hB with ⟨x, _, rfl, rfl, rfl⟩ | ⟨hnil, rfl, rfl, rfl⟩
      · by_cases hx : x = 0
        · subst hx
          rw [decide_eq_true rfl, Bool.not_true, br_f]
          refine ⟨0, T, 1, r1, false, rfl, rfl, hR1, fun out2 r2 b2 hB2 => ?_⟩
          dsimp only
          have hlt1 := hR1.lt
          have hR2 := hR1.put r2 b2
          have hrow2 := Row.puts hrow1 (id := 0) hlt1 Nat.one_pos (.cells false T (rdC r2 b2))
          rw [show ({ len := 1, val := 255 } : Str) = Str.of [255] from rfl, beq_lit, fB_eq]
          rcases byt1 hB2 with ⟨y, _, rfl, rfl, rfl⟩ | ⟨hnil, rfl, rfl, rfl⟩
          · by_cases hy : y = 255
            · subst hy
              rw [decide_eq_true rfl, br_t]
              refine ap_lit (m := [0]) hrow2 (by show h'.base ≤ 1; omega) (by show 1 ≤ _; exact hR2.lt) (by simp only [List.length_cons, List.length_nil, mostRoom] at *; omega) fun v3 h3 r3 l3 => ?_
              refine hs (r2.length + 1) _ _ _ (by simp) ⟨v3, acc ++ [0], r2, false, rfl, rfl, hR2.low l3 Nat.one_pos, by rw [l3.base]; exact hb, r3, by simp at hrl; omega, by simp at hal ⊢; omega, rfl, fun key tail h1 h2 => ⟨rfl, ?_⟩⟩
              obtain ⟨_, k2, e1, e2⟩ := hfit key tail h1 h2
              obtain ⟨k3, rfl, e3⟩ := midI2 e2
              exact ⟨k3, by rw [e1]; simp, e3⟩
            · have hne : ¬ [y] = [(255 : UInt8)] := by simpa using hy
              rw [decide_eq_false hne, br_f]
              rw [show ({ len := 1, val := 1 } : Str) = Str.of [1] from rfl, beq_lit, fB_eq]
              by_cases hy1 : y = 1
              · subst hy1
                rw [decide_eq_true rfl, br_t, Row.str hrow2]
                refine hk acc r2 false _ (fun key tail h1 h2 => ?_) (by simp at hrl; omega) hR2.2 hb
                obtain ⟨_, k2, e1, e2⟩ := hfit key tail h1 h2
                obtain ⟨rfl, e3⟩ := midI3 e2
                exact ⟨by rw [e1]; simp, e3, rfl⟩
              · have hne1 : ¬ [y] = [(1 : UInt8)] := by simpa using hy1
                rw [decide_eq_false hne1, br_f]
                rw [stV_at hR2.2 rfl (cs' := rdC r2 true) rfl hR2.lt hR2.1]
                refine hs (r2.length + 0) _ _ _ (by simp; omega) ⟨row, acc, r2, true, rfl, rfl, hR2.put r2 true, hb, Row.puts hrow2 (id := 0) hR2.lt Nat.one_pos _, by simp at hrl; omega, by simp at hal; omega, rfl, fun key tail h1 h2 => ?_⟩
                obtain ⟨_, k2, e1, e2⟩ := hfit key tail h1 h2
                exact (midI4 hy hy1 e2).elim
          · have hne : ¬ ([] : List UInt8) = [255] := by simp
            have hne1 : ¬ ([] : List UInt8) = [1] := by simp
            rw [decide_eq_false hne, br_f]
            rw [show ({ len := 1, val := 1 } : Str) = Str.of [1] from rfl, beq_lit, fB_eq, decide_eq_false hne1, br_f]
            rw [stV_at hR2.2 rfl (cs' := rdC r2 true) rfl hR2.lt hR2.1]
            refine hs (r2.length + 0) _ _ _ (by simp; omega) ⟨row, acc, r2, true, rfl, rfl, hR2.put r2 true, hb, Row.puts hrow2 (id := 0) hR2.lt Nat.one_pos _, by simp at hrl; omega, by simp at hal; omega, rfl, fun key tail h1 h2 => ?_⟩
            obtain ⟨_, k2, e1, e2⟩ := hfit key tail h1 h2
            rcases hnil with hnil | hnil
            · cases hnil
            · subst hnil; exact (midI6 e2).elim
        · have hne : ¬ [x] = [(0 : UInt8)] := by simpa using hx
          rw [decide_eq_false hne, Bool.not_false, br_t]
          refine ap_str hrow1 (by show h'.base ≤ 1; omega) (by show 1 ≤ _; exact hR1.lt) (by simp only [List.length_cons, List.length_nil, mostRoom] at *; omega) fun v3 h3 r3 l3 => ?_
          refine hs (r1.length + 1) _ _ _ (by simp) ⟨v3, acc ++ [x], r1, false, rfl, rfl, hR1.low l3 Nat.one_pos, by rw [l3.base]; exact hb, r3, by simp at hrl; omega, by simp at hal ⊢; omega, rfl, fun key tail h1 h2 => ⟨rfl, ?_⟩⟩
          obtain ⟨_, k2, e1, e2⟩ := hfit key tail h1 h2
          obtain ⟨k3, rfl, e3⟩ := midI1 hx e2
          exact ⟨k3, by rw [e1]; simp, e3⟩
      · have hne : ¬ ([] : List UInt8) = [0] := by simp
        rw [decide_eq_false hne, Bool.not_false, br_t]
        refine ap_str (m := []) hrow1 (by show h'.base ≤ 1; omega) (by show 1 ≤ _; exact hR1.lt) (by simp only [List.length_nil, mostRoom] at *; omega) fun v3 h3 r3 l3 => ?_
        rw [List.append_nil] at r3
        refine hs (r1.length + 0) _ _ _ (by simp) ⟨v3, acc, r1, true, rfl, rfl, hR1.low l3 Nat.one_pos, by rw [l3.base]; exact hb, r3, hrl, hal, rfl, fun key tail h1 h2 => ?_⟩
        obtain ⟨_, k2, e1, e2⟩ := hfit key tail h1 h2
        rcases hnil with hnil | hnil
        · cases hnil
        · subst hnil; exact (midI5 e2).elim
  refine jd_intro (fun v' d' h' => ∃ r0 b0, v' = (.ptr 0 0, ()) ∧ d' = [] ∧ RdAt h' 0 T r0 b0 ∧ h'.base = 0 ∧ r0.length ≤ rest.length ∧ (∀ key tail, bad = false → rest = c :: (mid key ++ tail) → b0 = false ∧ r0 = mid key ++ tail)) (fun j hj => ?_) ?_
  · have hR : RdAt (rdH T rest bad) 0 T rest bad := ⟨Nat.le_refl _, rfl⟩
    refine ⟨0, T, 1, rest, bad, rfl, rfl, hR, fun out r1 b1 hB => ?_⟩
    dsimp only
    have hR1 := hR.put r1 b1
    rw [beq_lit, fB_eq]
    rcases byt1 hB with ⟨x, _, rfl, rfl, rfl⟩ | ⟨hnil, rfl, rfl, rfl⟩
    · by_cases hx : x = c
      · subst hx
        rw [decide_eq_true rfl, Bool.not_true, br_f]
        refine hj _ _ _ ⟨r1, false, rfl, rfl, hR1, rfl, by simp, fun key tail h1 h2 => ⟨rfl, ?_⟩⟩
        injection h2
      · have hne : ¬ [x] = [c] := by simpa using hx
        rw [decide_eq_false hne, Bool.not_false, br_t, okNil_ptr, faK_ptr]
        rw [stV_at hR1.2 rfl (cs' := rdC r1 true) rfl hR1.lt hR1.1]
        refine hj _ _ _ ⟨r1, true, rfl, rfl, hR1.put r1 true, rfl, by simp, fun key tail h1 h2 => ?_⟩
        injection h2 with h2 _; exact absurd h2 hx
    · have hne : ¬ ([] : List UInt8) = [c] := by simp
      rw [decide_eq_false hne, Bool.not_false, br_t, okNil_ptr, faK_ptr]
      rw [stV_at hR1.2 rfl (cs' := rdC r1 true) rfl hR1.lt hR1.1]
      refine hj _ _ _ ⟨r1, true, rfl, rfl, hR1.put r1 true, rfl, Nat.le_refl _, fun key tail h1 h2 => ?_⟩
      rcases hnil with hnil | hnil
      · rw [h1] at hnil; cases hnil
      · rw [hnil] at h2; cases h2
  · rintro v' d' h' ⟨r0, b0, rfl, rfl, hR, hb, hlen, hfit⟩
    exact loop r0 b0 h' hR hb hlen hfit
end
end Go.Proofs.Ytlbigopkplckaaa
