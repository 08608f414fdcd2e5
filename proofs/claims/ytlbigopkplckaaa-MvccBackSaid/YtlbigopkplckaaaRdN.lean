/- Records are read back: what stands behind the reading. No condition. -/
import Derived.Test.YtlbigopkplckaaaRdM
namespace Go.Proofs.Ytlbigopkplckaaa
open Go Go.Am
set_option linter.all false
set_option maxRecDepth 100000
def recL (n m st w l t : Int) (kv : AV) (beat pw pl pt : Int) : List AV := [.int .i32 n, .int .i32 m, .int .u8 st, .int .i64 w, .int .i32 l, .int .i32 t, kv, .int .i64 beat, .int .i64 pw, .int .i32 pl, .int .i32 pt]
def zL : List AV := recL 0 0 0 0 0 0 .nils 0 0 0 0
/-- while a record is read: the key and the value, what is answered, the reader, the record -/
structure RcAt (K V : List UInt8) (T : Nat) (h : H) (rest : List UInt8) (bad : Bool) (n m st w l t : Int) (kv : AV) (ks : List (List UInt8)) (beat pw pl pt : Int) : Prop where
  base : h.base = 0
  nx : 4 ≤ h.next
  g0 : h.get 0 = .cells false 36 [.str (Str.of K), .str (Str.of V)]
  g1 : h.get 1 = .cells false 45 zL
  g2 : h.get 2 = .cells false T (rdC rest bad)
  g3 : h.get 3 = .cells false 45 (recL n m st w l t kv beat pw pl pt)
  kr : KRow 4 h kv ks
theorem RcAt.rd {K V : List UInt8} {T : Nat} {h : H} {rest : List UInt8} {bad : Bool} {n m st w l t : Int} {kv : AV} {ks : List (List UInt8)} {beat pw pl pt : Int} (A : RcAt K V T h rest bad n m st w l t kv ks beat pw pl pt) : RdAt h 2 T rest bad := ⟨by rw [A.base]; omega, A.g2⟩
theorem RcAt.read {K V : List UInt8} {T : Nat} {h : H} {rest : List UInt8} {bad : Bool} {n m st w l t : Int} {kv : AV} {ks : List (List UInt8)} {beat pw pl pt : Int} (A : RcAt K V T h rest bad n m st w l t kv ks beat pw pl pt) (rest' : List UInt8) (bad' : Bool) :
    RcAt K V T (putted h 2 (.cells false T (rdC rest' bad'))) rest' bad' n m st w l t kv ks beat pw pl pt := by
  have h2 : 2 < h.next := by have := A.nx; omega
  refine ⟨A.base, A.nx, ?_, ?_, ?_, ?_, A.kr.puts h2 (by omega) _⟩
  · rw [putted_get _ _ _ h2, if_neg (by omega)]; exact A.g0
  · rw [putted_get _ _ _ h2, if_neg (by omega)]; exact A.g1
  · rw [putted_get _ _ _ h2, if_pos rfl]
  · rw [putted_get _ _ _ h2, if_neg (by omega)]; exact A.g3
theorem RcAt.set {K V : List UInt8} {T : Nat} {h : H} {rest : List UInt8} {bad : Bool} {n m st w l t : Int} {kv : AV} {ks : List (List UInt8)} {beat pw pl pt : Int} (A : RcAt K V T h rest bad n m st w l t kv ks beat pw pl pt) {n' m' st' w' l' t' : Int} {kv' : AV} {ks' : List (List UInt8)} {beat' pw' pl' pt' : Int} (hk : KRow 4 h kv' ks') :
    RcAt K V T (putted h 3 (.cells false 45 (recL n' m' st' w' l' t' kv' beat' pw' pl' pt'))) rest bad n' m' st' w' l' t' kv' ks' beat' pw' pl' pt' := by
  have h2 : 3 < h.next := by have := A.nx; omega
  refine ⟨A.base, A.nx, ?_, ?_, ?_, ?_, hk.puts h2 (by omega) _⟩
  · rw [putted_get _ _ _ h2, if_neg (by omega)]; exact A.g0
  · rw [putted_get _ _ _ h2, if_neg (by omega)]; exact A.g1
  · rw [putted_get _ _ _ h2, if_neg (by omega)]; exact A.g2
  · rw [putted_get _ _ _ h2, if_pos rfl]
theorem RcAt.low {K V : List UInt8} {T : Nat} {h h' : H} {rest : List UInt8} {bad : Bool} {n m st w l t : Int} {kv : AV} {ks : List (List UInt8)} {beat pw pl pt : Int} (A : RcAt K V T h rest bad n m st w l t kv ks beat pw pl pt) {q : Nat} (lo : Low q h h') (hq : 4 ≤ q) (hk : KRow 4 h' kv ks) :
    RcAt K V T h' rest bad n m st w l t kv ks beat pw pl pt :=
  ⟨lo.base.trans A.base, Nat.le_trans A.nx lo.next, (lo.get 0 (by omega)).trans A.g0, (lo.get 1 (by omega)).trans A.g1, (lo.get 2 (by omega)).trans A.g2, (lo.get 3 (by omega)).trans A.g3, hk⟩
theorem RcAt.app {K V : List UInt8} {T : Nat} {h h' : H} {rest : List UInt8} {bad : Bool} {n m st w l t : Int} {kv kv' : AV} {ks ks' : List (List UInt8)} {beat pw pl pt : Int} (A : RcAt K V T h rest bad n m st w l t kv ks beat pw pl pt) (lo : Low 4 h h') (hk : KRow 4 h' kv' ks') :
    RcAt K V T (putted h' 3 (.cells false 45 (recL n m st w l t kv' beat pw pl pt))) rest bad n m st w l t kv' ks' beat pw pl pt := by
  have h2 : 3 < h'.next := by have := A.nx; have := lo.next; omega
  refine ⟨lo.base.trans A.base, Nat.le_trans A.nx lo.next, ?_, ?_, ?_, ?_, hk.puts h2 (by omega) _⟩
  · rw [putted_get _ _ _ h2, if_neg (by omega)]; exact (lo.get 0 (by omega)).trans A.g0
  · rw [putted_get _ _ _ h2, if_neg (by omega)]; exact (lo.get 1 (by omega)).trans A.g1
  · rw [putted_get _ _ _ h2, if_neg (by omega)]; exact (lo.get 2 (by omega)).trans A.g2
  · rw [putted_get _ _ _ h2, if_pos rfl]
section
variable {KA : AV → Int → H → Prop}
/-- what is answered -/
def RecK (K V : List UInt8) (KA : AV → Int → H → Prop) : Prop := ∀ n m st w l t kv ks beat pw pl pt e h, RecP K V n m st w l t ks beat pw pl pt e → KRow 4 h kv ks → KA (recAV n m st w l t kv beat pw pl pt) e h
theorem put1 {K V : List UInt8} {T : Nat} {h : H} {rest : List UInt8} {bad : Bool} {n m st w l t : Int} {kv : AV} {ks : List (List UInt8)} {beat pw pl pt : Int} (A : RcAt K V T h rest bad n m st w l t kv ks beat pw pl pt) {kv' : AV} {n' m' st' w' l' t' beat' pw' pl' pt' : Int} {ks' : List (List UInt8)} (hk : KRow 4 h kv' ks') (e : Int) (G : Gam)
    (hK : ∀ h', KRow 4 h' kv' ks' → KA (recAV n' m' st' w' l' t' kv' beat' pw' pl' pt') e h') :
    stN 11 (.ptr 1 0) (recL n' m' st' w' l' t' kv' beat' pw' pl' pt') h fun h1 => leaveK G [] h1 fun h2 => ldN 11 (.ptr 1 0) h2 fun l => KA (.agg l) e h2 := by
  have h1 : 1 < h.next := by have := A.nx; omega
  have ho : allOnes (recL n' m' st' w' l' t' kv' beat' pw' pl' pt') = true := by
    show (Bool.rec (motive := fun _ => Bool) false (allOnes [.int .i64 beat', .int .i64 pw', .int .i32 pl', .int .i32 pt']) (isOne kv')) = true
    rw [hk.one]; rfl
  rw [stN_at (n := 11) A.g1 rfl ho (cs' := recL n' m' st' w' l' t' kv' beat' pw' pl' pt') rfl h1 (by rw [A.base]; omega)]
  show ldN 11 (.ptr 1 0) (putted h 1 _) _
  rw [ldN_at (cs := recL n' m' st' w' l' t' kv' beat' pw' pl' pt') (l := recL n' m' st' w' l' t' kv' beat' pw' pl' pt') (by rw [putted_get _ _ _ h1, if_pos rfl]) rfl]
  exact hK _ (hk.puts h1 (by omega) _)
theorem put1z {K V : List UInt8} {T : Nat} {h : H} {rest : List UInt8} {bad : Bool} {n m st w l t : Int} {kv : AV} {ks : List (List UInt8)} {beat pw pl pt : Int} (A : RcAt K V T h rest bad n m st w l t kv ks beat pw pl pt) (G : Gam) (hk : RecK K V KA)
    (hn : ∀ n m st w l t ks beat pw pl pt, RecOk K V n m st w l t ks beat pw pl pt → False) :
    stN 11 (.ptr 1 0) zL h fun h1 => leaveK G [] h1 fun h2 => ldN 11 (.ptr 1 0) h2 fun l => KA (.agg l) (Int.ofNat 5) h2 :=
  put1 A (kv' := .nils) (ks' := []) (.inl ⟨rfl, rfl⟩) _ G fun h' hr => hk _ _ _ _ _ _ _ [] _ _ _ _ _ h' (.inr ⟨hn, rfl, rfl, rfl, rfl, rfl, rfl, rfl, rfl, rfl, rfl, rfl, rfl⟩) hr
theorem put1k {K V : List UInt8} {T : Nat} {h : H} {rest : List UInt8} {bad : Bool} {n m st w l t : Int} {kv : AV} {ks : List (List UInt8)} {beat pw pl pt : Int} (A : RcAt K V T h rest bad n m st w l t kv ks beat pw pl pt) (G : Gam) (hk : RecK K V KA)
    (ho : RecOk K V n m st w l t ks beat pw pl pt) :
    ldN 11 (.ptr 3 0) h fun l => stN 11 (.ptr 1 0) l h fun h1 => leaveK G [] h1 fun h2 => ldN 11 (.ptr 1 0) h2 fun l => KA (.agg l) (Int.ofNat 0) h2 := by
  rw [ldN_at A.g3 (l := recL n m st w l t kv beat pw pl pt) rfl]
  exact put1 A A.kr _ G fun h' hr => hk _ _ _ _ _ _ _ _ _ _ _ _ _ h' (.inl ⟨ho, rfl⟩) hr
/-- what is read fits, if anything does -/
def Fit (K V : List UInt8) (n m st w l t : Int) (ks : List (List UInt8)) (beat pw pl pt : Int) (bad : Bool) (rest : List UInt8) : Prop := ∀ n' m' st' w' l' t' ks' beat' pw' pl' pt', RecOk K V n' m' st' w' l' t' ks' beat' pw' pl' pt' →
  n = n' ∧ m = m' ∧ st = st' ∧ w = w' ∧ l = l' ∧ t = t' ∧ ks = ks' ∧ beat = beat' ∧ pw = pw' ∧ pl = pl' ∧ pt = pt' ∧ bad = false ∧ rest = []
theorem jd_introJ {J : Joins} {α : Type} {j : α → List Dfr → H → Prop} {b : (α → List Dfr → H → Prop) → Prop} (P : α → List Dfr → H → Prop) (hb : ∀ j', (∀ v d h, P v d h → j' v d h) → b j') (hj : ∀ v d h, P v d h → j v d h) : J.jd j b := by
  rw [J.jd_ok]; exact hb _ hj
theorem lp_ruleJ {J : Joins} {α : Type} {body : (α → List Dfr → H → Prop) → α → List Dfr → H → Prop} (Inv : Nat → α → List Dfr → H → Prop)
    (hstep : ∀ n self v d h, Inv n v d h → (∀ n' v' d' h', n' < n → Inv n' v' d' h' → self v' d' h') → body self v d h) {n : Nat} {v : α} {d : List Dfr} {h : H} (hn : n < fuel) (hi : Inv n v d h) : J.lp body v d h := by
  rw [J.lp_ok, ← J0.lp_ok]; exact lp_rule Inv hstep hn hi
def PRec (K V : List UInt8) (T : Nat) (v : AV × AV × AV × AV × Unit) (d : List Dfr) (h : H) : Prop := v = (.ptr 0 0, .ptr 1 0, .ptr 2 0, .ptr 3 0, ()) ∧ d = [] ∧ ∃ rest bad n m st w l t kv ks beat pw pl pt, RcAt K V T h rest bad n m st w l t kv ks beat pw pl pt ∧ Fit K V n m st w l t ks beat pw pl pt bad rest
/-- what is read first of a record -/
theorem rec_head {K V : List UInt8} {n m st beat pw pl pt : Int} {v1 v2 v3 : List UInt8} {c1 c2 c3 : Bool} (hB1 : BackP (List.drop 1 (List.take 5 K)) n) (hB2 : BackP (List.drop 5 K) m)
    (hN1 : NumP V false 4 st v1 c1) (hN2 : NumP v1 c1 1099511627776 beat v2 c2) (hSp : StP v2 c2 pw pl pt v3 c3) {n' m' st' w' l' t' : Int} {ks' : List (List UInt8)} {beat' pw' pl' pt' : Int} (o : RecOk K V n' m' st' w' l' t' ks' beat' pw' pl' pt') :
    n = n' ∧ m = m' ∧ wrapF .u8 st = st' ∧ beat = beat' ∧ pw = pw' ∧ pl = pl' ∧ pt = pt' ∧ c3 = false ∧ v3 = cond (endsB st') (stB w' l' t' ++ (uv ks'.length ++ keyB ks')) [] := by
  obtain ⟨k, _⟩ := knI_ok o.kn
  have k1 := k.n0; have k2 := k.n1; have k3 := k.m0; have k4 := k.m1; have k5 := k.st0; have k6 := k.st1; have k7 := k.b0; have k8 := k.b1
  have hV := o.v
  unfold keepB at hV
  have e1 := hB1 n'.toNat (by omega) (by rw [o.k]; rfl)
  have e2 := hB2 m'.toNat (by omega) (by rw [o.k]; rfl)
  obtain ⟨f1, f2, f3⟩ := hN1.1 st'.toNat _ rfl (by omega) (by omega) hV
  obtain ⟨f4, f5, f6⟩ := hN2.1 beat'.toNat _ f3 (by omega) (by omega) f2
  obtain ⟨g1, g2, g3, g4, g5⟩ := hSp pw' pl' pt' _ f6 k.pu f5
  refine ⟨by rw [e1]; exact (toNat_of k.n0).symm, by rw [e2]; exact (toNat_of (by omega)).symm, ?_, by rw [f4]; exact (toNat_of k.b0).symm, g1, g2, g3, g5, g4⟩
  rw [f1, wrapF_nat (kk := .u8) (m := st'.toNat) (by show st'.toNat < 256; omega)]
  exact (toNat_of k.st0).symm
/-- while the keys are read -/
def FitL (K V : List UInt8) (n m st w l t : Int) (ks : List (List UInt8)) (beat pw pl pt : Int) (bad : Bool) (rest : List UInt8) (c : Nat) : Prop := ∀ n' m' st' w' l' t' ks' beat' pw' pl' pt', RecOk K V n' m' st' w' l' t' ks' beat' pw' pl' pt' →
  n = n' ∧ m = m' ∧ st = st' ∧ w = w' ∧ l = l' ∧ t = t' ∧ beat = beat' ∧ pw = pw' ∧ pl = pl' ∧ pt = pt' ∧ bad = false ∧ ∃ k2, ks' = ks ++ k2 ∧ k2.length = c ∧ rest = keyB k2
theorem FitL.fin {K V : List UInt8} {n m st w l t : Int} {ks : List (List UInt8)} {beat pw pl pt : Int} {bad : Bool} {rest : List UInt8} {c : Nat} (F : FitL K V n m st w l t ks beat pw pl pt bad rest c) (h : c = 0 ∨ bad = true) : Fit K V n m st w l t ks beat pw pl pt bad rest := by
  intro n' m' st' w' l' t' ks' beat' pw' pl' pt' o
  obtain ⟨e1, e2, e3, e4, e5, e6, e7, e8, e9, e10, e11, k2, e12, e13, e14⟩ := F _ _ _ _ _ _ _ _ _ _ _ o
  rcases h with h | h
  · rw [h] at e13
    obtain rfl := List.length_eq_zero_iff.1 e13
    exact ⟨e1, e2, e3, e4, e5, e6, by rw [e12]; simp, e7, e8, e9, e10, e11, by rw [e14]; rfl⟩
  · rw [h] at e11; cases e11
theorem FitL.step {K V : List UInt8} {n m st w l t : Int} {ks : List (List UInt8)} {beat pw pl pt : Int} {rest out v1 v2 : List UInt8} {c xv : Nat} {c1 c2 bad : Bool} (F : FitL K V n m st w l t ks beat pw pl pt bad rest (c + 1))
    (hN : NumP rest bad 128 (Int.ofNat xv) v1 c1) (hB : BytP v1 c1 xv out v2 c2) : FitL K V n m st w l t (ks ++ [out]) beat pw pl pt c2 v2 c := by
  intro n' m' st' w' l' t' ks' beat' pw' pl' pt' o
  obtain ⟨e1, e2, e3, e4, e5, e6, e7, e8, e9, e10, e11, k2, e12, e13, e14⟩ := F _ _ _ _ _ _ _ _ _ _ _ o
  cases k2 with
  | nil => cases e13
  | cons k k2 =>
    have hu := (knI_ok o.kn).1.us ks.length (by rw [e12]; simp)
    have hk : ks'[ks.length]'(by rw [e12]; simp) = k := by simp [e12]
    rw [hk] at hu
    have e14 : rest = uv k.length ++ (k ++ keyB k2) := by rw [e14, ← List.append_assoc]; rfl
    obtain ⟨f1, f2, f3⟩ := hN.1 k.length _ e11 (by omega) hu.2 e14
    injection f1 with f1
    obtain ⟨g1, g2, g3⟩ := byt_ex hB f3 f1 f2
    refine ⟨e1, e2, e3, e4, e5, e6, e7, e8, e9, e10, g3, k2, by rw [e12, g1]; simp, by simpa using e13, g2⟩
theorem t25 {K V : List UInt8} (hlV : V.length ≤ 140737488351232) (hk : RecK K V KA) : s25G J0 pKeepL pStR pEnds pByt pNumR g63 (kvAV K V) H0 KA := by
  unfold s25G
  obtain ⟨S, hS⟩ : ∃ S, S = subK := ⟨_, rfl⟩
  obtain ⟨X, hX⟩ : ∃ X, X = g63 := ⟨_, rfl⟩
  obtain ⟨J, hJ⟩ : ∃ J, J = J0 := ⟨_, rfl⟩
  rw [← hS, ← hX, ← hJ]
  have S1 : ∀ (l : List UInt8) (m n : Nat), m ≤ n → n ≤ l.length → ∀ k, S (.str (Str.of l)) (some (.int .i64 (Int.ofNat m))) (some (.int .i64 (Int.ofNat n))) k = k (Str.of ((l.take n).drop m)) := fun l m n h h2 k => by rw [hS]; exact subK_mid h h2 k
  have S2 : ∀ (l : List UInt8) (m : Nat), m ≤ l.length → ∀ k, S (.str (Str.of l)) (some (.int .i64 (Int.ofNat m))) none k = k (Str.of (l.drop m)) := fun l m h k => by rw [hS]; exact subK_hi h k
  have X1 : ∀ {l : List UInt8} {h : H} {K : AV → H → Prop}, l.length = 4 → (∀ n, BackP l n → K (.int .i32 n) h) → X [.str (Str.of l)] h K := fun hl hk => by rw [hX]; exact g63_at hl hk
  clear hS hX
  simp only [fI_eq]
  by_cases h9 : K.length = 9
  · have b9 : eqI (Int.ofNat (Str.of K).len) (Int.ofNat 9) = true := eqI_true.2 (by show (K.length : Int) = 9; omega)
    conv => whnf
    refine rec_false (by show Bool.not (eqI (Int.ofNat (Str.of K).len) (Int.ofNat 9)) = false; rw [b9]; rfl) ?_
    conv => whnf
    rw [S1 K 1 5 (by decide) (by omega)]
    conv => whnf
    rw [S2 K 5 (by omega)]
    conv => whnf
    refine X1 (by rw [List.length_drop, List.length_take]; omega) fun n hB1 => ?_
    conv => whnf
    refine rec_true (show readsSo _ _ = true from reads_self rfl (by simp [AV.same])) ?_
    conv => whnf
    refine X1 (by rw [List.length_drop]; omega) fun m hB2 => ?_
    conv => whnf
    refine ⟨2, 63, 4, V, false, rfl, rfl, by decide, ⟨Nat.zero_le _, rfl⟩, hlV, fun st v1 c1 hN1 => ?_⟩
    dsimp only [putted]
    conv => whnf
    refine ⟨2, 63, 1099511627776, v1, c1, rfl, rfl, by decide, ⟨Nat.zero_le _, rfl⟩, Nat.le_trans hN1.2.2 hlV, fun beat v2 c2 hN2 => ?_⟩
    dsimp only [putted]
    conv => whnf
    refine ⟨2, 63, v2, c2, rfl, ⟨Nat.zero_le _, rfl⟩, fun pw pl pt v3 c3 hSp l3 => ?_⟩
    dsimp only [putted]
    conv => whnf
    have hd := fun n' m' st' w' l' t' ks' beat' pw' pl' pt' => rec_head (n' := n') (m' := m') (st' := st') (w' := w') (l' := l') (t' := t') (ks' := ks') (beat' := beat') (pw' := pw') (pl' := pl') (pt' := pt') hB1 hB2 hN1 hN2 hSp
    have hlv3 : v3.length ≤ V.length := Nat.le_trans l3 (Nat.le_trans hN2.2.2 hN1.2.2)
    clear hB1 hB2 hN1 hN2 hSp l3 X1 S1 S2
    generalize wrapF .u8 st = st at hd ⊢
    refine jd_introJ (J := J) (PRec K V 63) (fun j hj => ?_) ?_
    · conv => whnf
      refine rec_intro (fun hE => ?_) (fun hE => ?_)
      · have hE : endsB st = true := hE
        conv => whnf
        refine ⟨2, 63, v3, c3, rfl, ⟨Nat.zero_le _, rfl⟩, fun w l t v4 c4 hSa l4 => ?_⟩
        dsimp only [putted]
        conv => whnf
        refine ⟨2, 63, 24, v4, c4, rfl, rfl, by decide, ⟨Nat.zero_le _, rfl⟩, by omega, fun xk v5 c5 hNk => ?_⟩
        obtain ⟨xv, rfl, hx⟩ := hNk.2.1
        have hl5 := hNk.2.2
        have F0 : FitL K V n m st w l t [] beat pw pl pt c5 v5 xv := by
          intro n' m' st' w' l' t' ks' beat' pw' pl' pt' o
          obtain ⟨e1, e2, e3, e4, e5, e6, e7, e8, e9⟩ := hd _ _ _ _ _ _ _ _ _ _ _ o
          rw [← e3, hE] at e9
          have k := (knI_ok o.kn).1
          obtain ⟨f1, f2, f3, f4, f5⟩ := hSa w' l' t' _ e8 (k.at' (by rw [← e3]; exact hE)) e9
          have kl := k.len
          obtain ⟨g1, g2, g3⟩ := hNk.1 ks'.length _ f5 (by omega) kl f4
          injection g1 with g1
          exact ⟨e1, e2, e3, f1, f2, f3, e4, e5, e6, e7, g3, ks', rfl, g1.symm, g2⟩
        dsimp only [putted]
        conv => whnf
        refine lp_ruleJ (J := J) (fun c x d h' => x = (.ptr 0 0, .ptr 1 0, .ptr 2 0, .ptr 3 0, .int .i64 (Int.ofNat c), ()) ∧ d = [] ∧ ∃ rest bad kv ks, RcAt K V 63 h' rest bad n m st w l t kv ks beat pw pl pt ∧ FitL K V n m st w l t ks beat pw pl pt bad rest c ∧ ks.length + c ≤ 24 ∧ rest.length ≤ V.length) ?_ (n := xv) (by unfold fuel; omega)
          ⟨rfl, rfl, v5, c5, .nils, [], ⟨rfl, Nat.le_refl _, rfl, rfl, rfl, rfl, .inl ⟨rfl, rfl⟩⟩, F0, by simpa using hx, by omega⟩
        subst hJ
        rintro c self x d h' ⟨rfl, rfl, rest, bad, kv, ks, A, F, hlc, hlr⟩ hs
        dsimp only
        have L1 : ∀ k : Bool → Prop, ldB (.ptr 2 (Nat.add 0 1)) h' k = k bad := fun k => ldB_at A.g2 (x := bad) rfl k
        rw [asI_int, fB_eq]
        have fin : (c = 0 ∨ bad = true) → j (.ptr 0 0, .ptr 1 0, .ptr 2 0, .ptr 3 0, ()) [] h' := fun h => hj _ _ _ ⟨rfl, rfl, rest, bad, n, m, st, w, l, t, kv, ks, beat, pw, pl, pt, A, F.fin h⟩
        cases c with
        | zero =>
          rw [show ltI (Int.ofNat 0) (Int.ofNat 0) = false from rfl]
          simp only [↓jn_is, ↓br_t, ↓br_f, ↓pickB_t, ↓pickB_f, ↓asB_bool, ↓asI_int, ↓okNil_ptr, ↓faK_ptr]
          exact fin (.inl rfl)
        | succ c =>
          rw [lt_ltI (by omega : 0 < c + 1)]
          cases bad with
          | true =>
            simp only [↓jn_is, ↓br_t, ↓br_f, ↓pickB_t, ↓pickB_f, ↓asB_bool, ↓asI_int, ↓okNil_ptr, ↓faK_ptr, ↓L1, ↓fB_eq, ↓Bool.not_true]
            exact fin (.inr rfl)
          | false =>
            simp only [↓jn_is, ↓br_t, ↓br_f, ↓pickB_t, ↓pickB_f, ↓asB_bool, ↓asI_int, ↓okNil_ptr, ↓faK_ptr, ↓L1, ↓fB_eq, ↓Bool.not_false]
            rw [ldV_at A.g3 (v := kv) rfl]
            refine ⟨2, 63, 128, rest, false, rfl, rfl, by decide, A.rd, by omega, fun x v1 c1 hN => ?_⟩
            obtain ⟨xv, rfl, hx⟩ := hN.2.1
            have A1 := A.read v1 c1
            generalize putted h' 2 (.cells false 63 (rdC v1 c1)) = h1 at A1 ⊢
            refine ck_intro (reads_self ((aLoad1_at A1.g3).trans rfl) A1.kr.same) ?_
            refine ⟨2, 63, xv, v1, c1, rfl, rfl, A1.rd, fun out v2 c2 hB => ?_⟩
            have A2 := A1.read v2 c2
            generalize putted h1 2 (.cells false 63 (rdC v2 c2)) = h2 at A2 ⊢
            refine ck_intro (reads_self ((aLoad1_at A2.g3).trans rfl) A2.kr.same) ?_
            refine apC_key A2.kr A2.nx (by rw [A2.base]; omega) (by omega) fun v' h3 q3 l3 => ?_
            have g3 := (l3.get 3 (by omega)).trans A2.g3
            have n3 := A2.nx
            have l3n := l3.next
            rw [stV_at g3 q3.one (cs' := recL n m st w l t v' beat pw pl pt) rfl (by omega) (by rw [l3.base, A2.base]; omega), sub_one c (by omega)]
            refine hs c _ _ _ (by omega) ⟨rfl, rfl, v2, c2, v', ks ++ [out], ?_, F.step hN hB, by simp; omega, Nat.le_trans (byt_le hB) (Nat.le_trans hN.2.2 hlr)⟩
            exact A2.app l3 q3
      · have hE : endsB st = false := hE
        conv => whnf
        refine hj _ _ _ ⟨rfl, rfl, v3, c3, n, m, st, 0, 0, 0, .nils, [], beat, pw, pl, pt, ⟨rfl, Nat.le_refl _, rfl, rfl, rfl, rfl, .inl ⟨rfl, rfl⟩⟩, fun n' m' st' w' l' t' ks' beat' pw' pl' pt' o => ?_⟩
        obtain ⟨e1, e2, e3, e4, e5, e6, e7, e8, e9⟩ := hd _ _ _ _ _ _ _ _ _ _ _ o
        obtain ⟨z1, z2, z3, z4⟩ := knI_z o.kn (by rw [← e3]; exact hE)
        rw [← e3, hE] at e9
        exact ⟨e1, e2, e3, z1.symm, z2.symm, z3.symm, z4.symm, e4, e5, e6, e7, e8, e9⟩
    · subst hJ
      rintro v' d' h' ⟨rfl, rfl, rest, bad, n, m, st, w, l, t, kv, ks, beat, pw, pl, pt, A, F⟩
      dsimp only
      rw [ldN_at A.g3 (l := recL n m st w l t kv beat pw pl pt) rfl]
      refine ⟨n, m, st, w, l, t, kv, beat, pw, pl, pt, ks, rfl, A.kr.keys, ?_⟩
      dsimp only
      refine push_out _ _ _ fun h1 lo g4 n4 => ?_
      have A1 := A.low lo A.nx (A.kr.low lo (Nat.le_refl _))
      have nA := A.nx
      have bA := A1.base
      have L : ∀ b, Low h'.next h' (putted h1 h'.next b) := fun b => lo.trans (Low.put (n := h'.next) (h := h1) (i := h'.next) b (by omega) (Nat.le_refl _))
      cases hc : eqI (knI n m st w l t ks beat pw pl pt) (Int.ofNat 0) with
      | false =>
        have e1 : keepV n m st w l t ks beat pw pl pt = noWr := by unfold keepV; rw [hc]; rfl
        rw [e1]
        show stN 3 (.ptr h'.next 0) [.str ⟨0, 0⟩, .str ⟨0, 0⟩, .bool false] h1 _
        rw [stN_at (n := 3) g4 rfl rfl (cs' := [.str ⟨0, 0⟩, .str ⟨0, 0⟩, .bool false]) rfl (by omega) (by omega)]
        have A2 : RcAt K V 63 (putted h1 h'.next (.cells false 23 [.str ⟨0, 0⟩, .str ⟨0, 0⟩, .bool false])) rest bad n m st w l t kv ks beat pw pl pt := A.low (L _) A.nx (A.kr.low (L _) (Nat.le_refl _))
        rw [fB_eq, Bool.not_false]
        simp only [↓jn_is, ↓br_t, ↓br_f, ↓pickB_t, ↓pickB_f, ↓asB_bool, ↓asI_int, ↓okNil_ptr, ↓faK_ptr]
        refine put1z A2 _ hk fun n' m' st' w' l' t' ks' beat' pw' pl' pt' o => ?_
        obtain ⟨rfl, rfl, rfl, rfl, rfl, rfl, rfl, rfl, rfl, rfl, rfl, _⟩ := F _ _ _ _ _ _ _ _ _ _ _ o
        rw [o.kn] at hc; cases hc
      | true =>
        have e1 : keepV n m st w l t ks beat pw pl pt = wrAV (Str.of (plB n.toNat m.toNat)) (Str.of (keepB st w l t ks beat pw pl pt)) false := by unfold keepV; rw [hc]; rfl
        rw [e1]
        show stN 3 (.ptr h'.next 0) [.str (Str.of (plB n.toNat m.toNat)), .str (Str.of (keepB st w l t ks beat pw pl pt)), .bool false] h1 _
        rw [stN_at (n := 3) g4 rfl rfl (cs' := [.str (Str.of (plB n.toNat m.toNat)), .str (Str.of (keepB st w l t ks beat pw pl pt)), .bool false]) rfl (by omega) (by omega)]
        have A2 : RcAt K V 63 (putted h1 h'.next (.cells false 23 [.str (Str.of (plB n.toNat m.toNat)), .str (Str.of (keepB st w l t ks beat pw pl pt)), .bool false])) rest bad n m st w l t kv ks beat pw pl pt := A.low (L _) A.nx (A.kr.low (L _) (Nat.le_refl _))
        have g5 : (putted h1 h'.next (.cells false 23 [.str (Str.of (plB n.toNat m.toNat)), .str (Str.of (keepB st w l t ks beat pw pl pt)), .bool false])).get h'.next = .cells false 23 [.str (Str.of (plB n.toNat m.toNat)), .str (Str.of (keepB st w l t ks beat pw pl pt)), .bool false] := by rw [putted_get _ _ _ (by omega), if_pos rfl]
        generalize putted h1 h'.next (.cells false 23 [.str (Str.of (plB n.toNat m.toNat)), .str (Str.of (keepB st w l t ks beat pw pl pt)), .bool false]) = h2 at A2 g5 ⊢
        have L1 : ∀ k : Bool → Prop, ldB (.ptr 2 (Nat.add 0 1)) h2 k = k bad := fun k => ldB_at A2.g2 (x := bad) rfl k
        have L2 : ∀ k : Str → Prop, ldS (.ptr h'.next 0) h2 k = k (Str.of (plB n.toNat m.toNat)) := fun k => ldS_at g5 (x := Str.of (plB n.toNat m.toNat)) rfl k
        have L3 : ∀ k : Str → Prop, ldS (.ptr h'.next 1) h2 k = k (Str.of (keepB st w l t ks beat pw pl pt)) := fun k => ldS_at g5 (x := Str.of (keepB st w l t ks beat pw pl pt)) rfl k
        have L4 : ∀ k : Str → Prop, ldS (.ptr 0 (Nat.add 0 0)) h2 k = k (Str.of K) := fun k => ldS_at A2.g0 (x := Str.of K) rfl k
        have L5 : ∀ k : Str → Prop, ldS (.ptr 0 (Nat.add 0 1)) h2 k = k (Str.of V) := fun k => ldS_at A2.g0 (x := Str.of V) rfl k
        rw [fB_eq, Bool.not_true]
        have no : ∀ G, ¬ (RecOk K V n m st w l t ks beat pw pl pt ∧ bad = false) → stN 11 (.ptr 1 0) zL h2 fun h1 => leaveK G [] h1 fun h2 => ldN 11 (.ptr 1 0) h2 fun l => KA (.agg l) (Int.ofNat 5) h2 := fun G hno => by
          refine put1z A2 _ hk fun n' m' st' w' l' t' ks' beat' pw' pl' pt' o => ?_
          obtain ⟨rfl, rfl, rfl, rfl, rfl, rfl, rfl, rfl, rfl, rfl, rfl, hb, _⟩ := F _ _ _ _ _ _ _ _ _ _ _ o
          exact hno ⟨o, hb⟩
        cases bad with
        | true =>
          simp only [↓jn_is, ↓br_t, ↓br_f, ↓pickB_t, ↓pickB_f, ↓asB_bool, ↓asI_int, ↓okNil_ptr, ↓faK_ptr, ↓L1, ↓fB_eq]
          exact no _ fun h => by cases h.2
        | false =>
          have q1 := beq_lit (plB n.toNat m.toNat) K
          have q2 := beq_lit (keepB st w l t ks beat pw pl pt) V
          by_cases c1 : plB n.toNat m.toNat = K
          · rw [decide_eq_true c1] at q1
            by_cases c2 : keepB st w l t ks beat pw pl pt = V
            · rw [decide_eq_true c2] at q2
              simp only [↓jn_is, ↓br_t, ↓br_f, ↓pickB_t, ↓pickB_f, ↓asB_bool, ↓asI_int, ↓asS_str, ↓okNil_ptr, ↓faK_ptr, ↓L1, ↓L2, ↓L3, ↓L4, ↓L5, ↓fB_eq, q1, q2, Bool.not_true]
              exact put1k A2 _ hk ⟨hc, c1.symm, c2.symm⟩
            · rw [decide_eq_false c2] at q2
              simp only [↓jn_is, ↓br_t, ↓br_f, ↓pickB_t, ↓pickB_f, ↓asB_bool, ↓asI_int, ↓asS_str, ↓okNil_ptr, ↓faK_ptr, ↓L1, ↓L2, ↓L3, ↓L4, ↓L5, ↓fB_eq, q1, q2, Bool.not_true, Bool.not_false]
              exact no _ fun h => c2 h.1.v.symm
          · rw [decide_eq_false c1] at q1
            simp only [↓jn_is, ↓br_t, ↓br_f, ↓pickB_t, ↓pickB_f, ↓asB_bool, ↓asI_int, ↓asS_str, ↓okNil_ptr, ↓faK_ptr, ↓L1, ↓L2, ↓L3, ↓L4, ↓L5, ↓fB_eq, q1, Bool.not_true, Bool.not_false]
            exact no _ fun h => c1 h.1.k.symm
  · have b9 : eqI (Int.ofNat (Str.of K).len) (Int.ofNat 9) = false := eqI_false.2 (by show ¬ (K.length : Int) = 9; omega)
    conv => whnf
    refine rec_true (by show Bool.not (eqI (Int.ofNat (Str.of K).len) (Int.ofNat 9)) = true; rw [b9]; rfl) ?_
    conv => whnf
    refine hk _ _ _ _ _ _ _ [] _ _ _ _ _ _ (.inr ⟨fun n m st w l t ks beat pw pl pt ho => ?_, rfl, rfl, rfl, rfl, rfl, rfl, rfl, rfl, rfl, rfl, rfl, rfl⟩) (.inl ⟨rfl, rfl⟩)
    apply h9; rw [ho.k]; simp [plB, be_len]
end
end Go.Proofs.Ytlbigopkplckaaa
