/- The readers of the layer of versions: that each is told rightly by what it reads. No condition. -/
import Derived.Test.YtlbigopkplckaaaRdP
namespace Go.Proofs.Ytlbigopkplckaaa
open Go Go.Am
set_option linter.all false
set_option maxRecDepth 100000
theorem q58_ok : FunOk Try.prog 58 (w58 pByt) := (fun_ok ty_ok mixed (gam_ok (J := J0) (tab_nil fls_fun)) Try.func58 (fun args w => by simp)).own.imp fun xs h k e0 => by
  obtain ⟨a0, xs0, rfl, e1⟩ := arg_imp e0
  obtain ⟨a1, xs1, rfl, e2⟩ := arg_imp e1
  obtain ⟨rfl, e3⟩ := noArg_imp e2
  obtain ⟨a1, rfl, e4⟩ := asI_iff.1 e3
  obtain ⟨id, T, m, rest, bad, rfl, rfl, hr, hk⟩ := e4
  refine ⟨id, T, rdC rest bad, _, rfl, hr.1, hr.2, rdC_flat _ _, rfl, (s58_eq J0 (.ptr 0 0) (Int.ofNat m) _ _).mpr (t58 fun out rest' bad' h1 hP hg _ _ => ?_)⟩
  exact ⟨rfl, _, hg, rdC_flat _ _, hk _ _ _ hP⟩
theorem q62_ok : FunOk Try.prog 62 (w62 pByt) := (fun_ok ty_ok mixed (gam_ok (J := J0) (tab_nil fls_fun)) Try.func62 (fun args w => by simp)).own.imp fun xs h k e0 => by
  obtain ⟨a0, xs0, rfl, e1⟩ := arg_imp e0
  obtain ⟨a1, xs1, rfl, e2⟩ := arg_imp e1
  obtain ⟨rfl, e3⟩ := noArg_imp e2
  obtain ⟨a1, rfl, e4⟩ := asI_iff.1 e3
  obtain ⟨id, T, m, rest, bad, rfl, rfl, hr, hk⟩ := e4
  refine ⟨id, T, rdC rest bad, _, rfl, hr.1, hr.2, rdC_flat _ _, rfl, (s62_eq J0 (.ptr 0 0) (Int.ofNat m) _ _).mpr (t62 fun out rest' bad' h1 hP hg _ _ => ?_)⟩
  exact ⟨rfl, _, hg, rdC_flat _ _, hk _ _ _ hP⟩
theorem q32_ok : FunOk Try.prog 32 (w32 pOf) := (fun_ok ty_ok mixed (gam_ok (J := J0) (tab_cons q58_ok (tab_nil fls_fun))) Try.func32 (fun args w => by simp)).own.imp fun xs h k e0 => by
  obtain ⟨a0, xs0, rfl, e1⟩ := arg_imp e0
  obtain ⟨a1, xs1, rfl, e2⟩ := arg_imp e1
  obtain ⟨rfl, e3⟩ := noArg_imp e2
  obtain ⟨a1, rfl, e4⟩ := asS_iff.1 e3
  obtain ⟨id, T, c, rest, bad, rfl, rfl, hl, hr, hk⟩ := e4
  refine ⟨id, T, rdC rest bad, _, rfl, hr.1, hr.2, rdC_flat _ _, rfl, (s32_eq J0 pByt (.ptr 0 0) _ _ _).mpr (t32 hl fun out rest' bad' h1 hP hle hg _ => ?_)⟩
  exact ⟨rfl, _, hg, rdC_flat _ _, hk _ _ _ hP hle⟩
theorem q80_ok : FunOk Try.prog 80 (w80 pUnf) := (fun_ok ty_ok mixed (gam_ok (J := J0) (tab_nil fls_fun)) Try.func80 (fun args w => by simp)).imp fun xs h k e0 => by
  obtain ⟨a0, xs0, rfl, e1⟩ := arg_imp e0
  obtain ⟨rfl, e2⟩ := noArg_imp e1
  obtain ⟨a0, rfl, e3⟩ := asS_iff.1 e2
  obtain ⟨l, rfl, hl, hk⟩ := e3
  exact (s80_eq J0 _ h _).mpr (t80 hl hk)
theorem q67_ok : FunOk Try.prog 67 (w67 pUns) := (fun_ok ty_ok mixed (gam_ok (J := J0) (tab_cons q78_ok (tab_cons q80_ok (tab_nil fls_fun)))) Try.func67 (fun args w => by simp)).alone.imp fun xs h k e0 => by
  obtain ⟨a0, xs0, rfl, e1⟩ := arg_imp e0
  obtain ⟨rfl, e2⟩ := noArg_imp e1
  obtain ⟨a0, rfl, e3⟩ := asS_iff.1 e2
  obtain ⟨l, rfl, hk⟩ := e3
  refine ⟨H0, .empty h, .empty, by simp [AV.underL, AV.under], (s67_eq J0 pOkS pUnf (Str.of l) H0 _).mpr (t67 fun w lo t e hU => ?_)⟩
  exact ⟨by simp [AV.under, AV.underL, stAV], hk _ _ _ _ hU⟩
theorem q56_ok : FunOk Try.prog 56 (w56 pUns) := (fun_ok ty_ok mixed (gam_ok (J := J0) (tab_nil fls_fun)) Try.func56 (fun args w => by simp)).alone.imp fun xs h k e0 => by
  obtain ⟨a0, xs0, rfl, e1⟩ := arg_imp e0
  obtain ⟨rfl, e2⟩ := noArg_imp e1
  obtain ⟨a0, rfl, e3⟩ := asS_iff.1 e2
  obtain ⟨l, rfl, hk⟩ := e3
  refine ⟨H0, .empty h, .empty, by simp [AV.underL, AV.under], (s56_eq J0 (Str.of l) H0 _).mpr (t56 fun w lo t e hU => ?_)⟩
  exact ⟨by simp [AV.under, AV.underL, stAV], hk _ _ _ _ hU⟩
theorem stAV_flat (w l t : Int) : (stAV w l t).flat = true := rfl
theorem q33_ok : FunOk Try.prog 33 (w33 pStR) := (fun_ok ty_ok mixed (gam_ok (J := J0) (tab_cons q58_ok (tab_cons q67_ok (tab_nil fls_fun)))) Try.func33 (fun args w => by simp)).own.imp fun xs h k e0 => by
  obtain ⟨a0, xs0, rfl, e1⟩ := arg_imp e0
  obtain ⟨rfl, e2⟩ := noArg_imp e1
  obtain ⟨id, T, rest, bad, rfl, hr, hk⟩ := e2
  refine ⟨id, T, rdC rest bad, _, rfl, hr.1, hr.2, rdC_flat _ _, rfl, (s33_eq J0 pByt pUns (.ptr 0 0) _ _).mpr (t33 fun w l t rest' bad' h1 hP hle hg => ?_)⟩
  exact ⟨rfl, _, hg, rdC_flat _ _, hk _ _ _ _ _ hP hle⟩
theorem q61_ok : FunOk Try.prog 61 (w61 pStR) := (fun_ok ty_ok mixed (gam_ok (J := J0) (tab_cons q56_ok (tab_cons q62_ok (tab_nil fls_fun)))) Try.func61 (fun args w => by simp)).own.imp fun xs h k e0 => by
  obtain ⟨a0, xs0, rfl, e1⟩ := arg_imp e0
  obtain ⟨rfl, e2⟩ := noArg_imp e1
  obtain ⟨id, T, rest, bad, rfl, hr, hk⟩ := e2
  refine ⟨id, T, rdC rest bad, _, rfl, hr.1, hr.2, rdC_flat _ _, rfl, (s61_eq J0 pUns pByt (.ptr 0 0) _ _).mpr (t61 fun w l t rest' bad' h1 hP hle hg => ?_)⟩
  exact ⟨rfl, _, hg, rdC_flat _ _, hk _ _ _ _ _ hP hle⟩
theorem q34_ok : FunOk Try.prog 34 (w34 pFlR) := (fun_ok ty_ok mixed (gam_ok (J := J0) (tab_cons q58_ok (tab_nil fls_fun))) Try.func34 (fun args w => by simp)).own.imp fun xs h k e0 => by
  obtain ⟨a0, xs0, rfl, e1⟩ := arg_imp e0
  obtain ⟨rfl, e2⟩ := noArg_imp e1
  obtain ⟨id, T, rest, bad, rfl, hr, hk⟩ := e2
  refine ⟨id, T, rdC rest bad, _, rfl, hr.1, hr.2, rdC_flat _ _, rfl, (s34_eq J0 pByt (.ptr 0 0) _ _).mpr (t34 fun d out rest' bad' h1 hP hg => ?_)⟩
  exact ⟨rfl, _, hg, rdC_flat _ _, hk _ _ _ _ hP⟩
theorem q55_ok : FunOk Try.prog 55 (w55 pUm) := (fun_ok ty_ok mixed (gam_ok (J := J0) (tab_nil fls_fun)) Try.func55 (fun args w => by simp)).alone.imp fun xs h k e0 => by
  obtain ⟨a0, xs0, rfl, e1⟩ := arg_imp e0
  obtain ⟨rfl, e2⟩ := noArg_imp e1
  obtain ⟨a0, rfl, e3⟩ := asS_iff.1 e2
  obtain ⟨l, rfl, hl, hk⟩ := e3
  refine ⟨H0, .empty h, .empty, by simp [AV.underL, AV.under], (s55_eq J0 (Str.of l) H0 _).mpr (t55 hl fun out n ok hU => ?_)⟩
  exact ⟨by simp [AV.under, AV.underL], hk _ _ _ hU⟩
noncomputable def pCell : AV → H → (AV → Int → H → Prop) → Prop := fun a h k => ∃ K V : List UInt8, a = kvAV K V ∧ K.length ≤ 140737488351232 ∧ V.length ≤ 140737488351232 ∧ ∀ r e, CellP K V r e → k r e h
noncomputable def pInt : AV → H → (AV → Int → H → Prop) → Prop := fun a h k => ∃ K V : List UInt8, a = kvAV K V ∧ K.length ≤ 140737488351232 ∧ V.length ≤ 140737488351232 ∧ ∀ r e, IntP K V r e → k r e h
theorem CellP.ce {K V : List UInt8} {r : AV} {e : Int} (h : CellP K V r e) : ∃ key w l t val del, r = ceAV key w l t val del := by
  rcases h with ⟨_, _, _, _, _, _, _, _, _, rfl, _⟩ | ⟨_, rfl, _⟩ <;> exact ⟨_, _, _, _, _, _, rfl⟩
theorem IntP.ins {K V : List UInt8} {r : AV} {e : Int} (h : IntP K V r e) : ∃ key n m bw bl bt anchor w l t val del, r = inAV key n m bw bl bt anchor w l t val del := by
  rcases h with ⟨_, _, _, _, _, _, _, _, _, _, _, _, _, _, _, rfl, _⟩ | ⟨_, rfl, _⟩ <;> exact ⟨_, _, _, _, _, _, _, _, _, _, _, _, rfl⟩
theorem q10_ok : FunOk Try.prog 10 (w10 pCell) := (fun_ok ty_ok mixed (gam_ok (J := J0) (tab_cons q7_ok (tab_cons q32_ok (tab_cons q33_ok (tab_cons q34_ok (tab_nil fls_fun)))))) Try.func10 (fun args w => by simp)).alone.imp fun xs h k e0 => by
  obtain ⟨a0, xs0, rfl, e1⟩ := arg_imp e0
  obtain ⟨rfl, e2⟩ := noArg_imp e1
  obtain ⟨K, V, rfl, hK, hV, hk⟩ := e2
  refine ⟨H0, .empty h, .empty, by simp [AV.underL, AV.under, kvAV], (s10_eq J0 pPut pOf pStR pFlR (kvAV K V) H0 _).mpr (t10 hK fun r e hP => ?_)⟩
  obtain ⟨_, _, _, _, _, _, hr⟩ := hP.ce
  exact ⟨by rw [hr]; simp [AV.under, AV.underL, ceAV], hk _ _ hP⟩
theorem q22_ok : FunOk Try.prog 22 (w22 pCell) := (fun_ok ty_ok mixed (gam_ok (J := J0) (tab_cons q12_ok (tab_cons q55_ok (tab_cons q56_ok (tab_nil fls_fun))))) Try.func22 (fun args w => by simp)).alone.imp fun xs h k e0 => by
  obtain ⟨a0, xs0, rfl, e1⟩ := arg_imp e0
  obtain ⟨rfl, e2⟩ := noArg_imp e1
  obtain ⟨K, V, rfl, hK, hV, hk⟩ := e2
  refine ⟨H0, .empty h, .empty, by simp [AV.underL, AV.under, kvAV], (s22_eq J0 pPut pUm pUns (kvAV K V) H0 _).mpr (t22 hK fun r e hP => ?_)⟩
  obtain ⟨_, _, _, _, _, _, hr⟩ := hP.ce
  exact ⟨by rw [hr]; simp [AV.under, AV.underL, ceAV], hk _ _ hP⟩
theorem q59_ok : FunOk Try.prog 59 (w59 pNumR) := (fun_ok ty_ok mixed (gam_ok (J := J0) (tab_cons g76_ok (tab_nil fls_fun))) Try.func59 (fun args w => by simp)).own.imp fun xs h k e0 => by
  obtain ⟨a0, xs0, rfl, e1⟩ := arg_imp e0
  obtain ⟨a1, xs1, rfl, e2⟩ := arg_imp e1
  obtain ⟨rfl, e3⟩ := noArg_imp e2
  obtain ⟨a1, rfl, e4⟩ := asI_iff.1 e3
  obtain ⟨id, T, mo, rest, bad, rfl, rfl, hmo, hr, hl, hk⟩ := e4
  refine ⟨id, T, rdC rest bad, _, rfl, hr.1, hr.2, rdC_flat _ _, rfl, (s59_eq J0 s76 (.ptr 0 0) (Int.ofNat mo) _ _).mpr (t59 hl hmo fun x rest' bad' h1 hP hg => ?_)⟩
  exact ⟨rfl, _, hg, rdC_flat _ _, hk _ _ _ hP⟩
theorem q60_ok : FunOk Try.prog 60 (w60 pNumR) := (fun_ok ty_ok mixed (gam_ok (J := J0) (tab_cons g77_ok (tab_nil fls_fun))) Try.func60 (fun args w => by simp)).own.imp fun xs h k e0 => by
  obtain ⟨a0, xs0, rfl, e1⟩ := arg_imp e0
  obtain ⟨a1, xs1, rfl, e2⟩ := arg_imp e1
  obtain ⟨rfl, e3⟩ := noArg_imp e2
  obtain ⟨a1, rfl, e4⟩ := asI_iff.1 e3
  obtain ⟨id, T, mo, rest, bad, rfl, rfl, hmo, hr, hl, hk⟩ := e4
  refine ⟨id, T, rdC rest bad, _, rfl, hr.1, hr.2, rdC_flat _ _, rfl, (s60_eq J0 s77 (.ptr 0 0) (Int.ofNat mo) _ _).mpr (t60 (fun r hl hb K hk => ?_) hl fun x rest' bad' h1 hP hg => ?_)⟩
  · refine t77 hmo (fun hk => t86 (fun x hx h K hb hk => ?_) r hl hb hk) hk
    exact t70 64 9 x (by decide) (Nat.lt_trans hx (by decide)) (by omega) hb hk
  · exact ⟨rfl, _, hg, rdC_flat _ _, hk _ _ _ hP⟩
theorem q57_ok : FunOk Try.prog 57 (w57 pTxR) := (fun_ok ty_ok mixed (gam_ok (J := J0) (tab_cons q59_ok (tab_nil fls_fun))) Try.func57 (fun args w => by simp)).own.imp fun xs h k e0 => by
  obtain ⟨a0, xs0, rfl, e1⟩ := arg_imp e0
  obtain ⟨rfl, e2⟩ := noArg_imp e1
  obtain ⟨id, T, rest, bad, rfl, hr, hl, hk⟩ := e2
  refine ⟨id, T, rdC rest bad, _, rfl, hr.1, hr.2, rdC_flat _ _, rfl, (s57_eq J0 pNumR (.ptr 0 0) _ _).mpr (t57 hl fun n m rest' bad' h1 hP hg => ?_)⟩
  exact ⟨rfl, _, hg, rdC_flat _ _, hk _ _ _ _ hP⟩
theorem q23_ok : FunOk Try.prog 23 (w23 pInt) := (fun_ok ty_ok mixed (gam_ok (J := J0) (tab_cons q13_ok (tab_cons q32_ok (tab_cons q33_ok (tab_cons q34_ok (tab_cons q57_ok (tab_cons q58_ok (tab_cons q59_ok (tab_nil fls_fun))))))))) Try.func23 (fun args w => by simp)).alone.imp fun xs h k e0 => by
  obtain ⟨a0, xs0, rfl, e1⟩ := arg_imp e0
  obtain ⟨rfl, e2⟩ := noArg_imp e1
  obtain ⟨K, V, rfl, hK, hV, hk⟩ := e2
  refine ⟨H0, .empty h, .empty, by simp [AV.underL, AV.under, kvAV], (s23_eq J0 pLay pOf pStR pFlR pTxR pByt pNumR (kvAV K V) H0 _).mpr (t23 hK hV fun r e hP => ?_)⟩
  obtain ⟨_, _, _, _, _, _, _, _, _, _, _, _, hr⟩ := hP.ins
  exact ⟨by rw [hr]; simp [AV.under, AV.underL, inAV], hk _ _ hP⟩
theorem q24_ok : FunOk Try.prog 24 (w24 pInt) := (fun_ok ty_ok mixed (gam_ok (J := J0) (tab_cons q14_ok (tab_cons q55_ok (tab_cons q60_ok (tab_cons q61_ok (tab_cons q62_ok (tab_nil fls_fun))))))) Try.func24 (fun args w => by simp)).alone.imp fun xs h k e0 => by
  obtain ⟨a0, xs0, rfl, e1⟩ := arg_imp e0
  obtain ⟨rfl, e2⟩ := noArg_imp e1
  obtain ⟨K, V, rfl, hK, hV, hk⟩ := e2
  refine ⟨H0, .empty h, .empty, by simp [AV.underL, AV.under, kvAV], (s24_eq J0 pLay pUm pNumR pStR pByt (kvAV K V) H0 _).mpr (t24 hK hV fun r e hP => ?_)⟩
  obtain ⟨_, _, _, _, _, _, _, _, _, _, _, _, hr⟩ := hP.ins
  exact ⟨by rw [hr]; simp [AV.under, AV.underL, inAV], hk _ _ hP⟩
/-! ## records -/
theorem keys_lent {h : H} {v : AV} {ks : List (List UInt8)} (q : KeysAt h v ks) : ∃ (h0 : H) (ρ : Nat → Nat) (u : AV), v = u.ren ρ ∧ u.under h0.next ∧ Lent h0 h ρ ∧ KV h0 u ks := by
  rcases q with ⟨rfl, rfl⟩ | ⟨id, c, ex, m, t, rfl, q2, q3⟩
  · exact ⟨H0, fun i => i, .nils, rfl, by simp [AV.under], ⟨rfl, fun i hi => absurd hi (Nat.not_lt_zero _)⟩, .inl ⟨rfl, rfl, rfl⟩⟩
  · refine ⟨hK t ks, fun _ => id, .slice 0 0 ks.length c 1 ex, rfl, by simp only [AV.under]; exact Nat.one_pos, ⟨rfl, fun i hi => ?_⟩, .inr ⟨t, c, ex, rfl, rfl⟩⟩
    obtain rfl : i = 0 := by have : i < 1 := hi; omega
    exact ⟨m, t, kcells ks, rfl, kcells_flat ks, q2⟩
theorem wr_flat {v : AV} (h : ∃ a b d, v = wrAV a b d) : v.flat = true := by obtain ⟨a, b, d, rfl⟩ := h; rfl
theorem rec_ren (n m st w l t : Int) (u : AV) (beat pw pl pt : Int) (ρ : Nat → Nat) : recAV n m st w l t (u.ren ρ) beat pw pl pt = (recAV n m st w l t u beat pw pl pt).ren ρ := by simp [recAV, AV.ren, AV.renL]
theorem rec_under (n m st w l t : Int) (u : AV) (beat pw pl pt : Int) (i : Nat) (h : u.under i) : (recAV n m st w l t u beat pw pl pt).under i := by simp [recAV, AV.under, AV.underL, h]
theorem tup_flat {v : AV} {x : Int} (h : v.flat = true) : (AV.tuple [v, .int .i64 x]).flat = true := by simp [AV.flat, AV.flatL, h]
theorem q18L_ok : FunOk Try.prog 18 (w18 pKeepL) := (fun_ok ty_ok mixed (gam_ok (J := J0) (tab_cons q30_ok (tab_cons q41_ok (tab_cons q48_ok (tab_cons g49_ok (tab_cons q50_ok (tab_cons q51_ok (tab_cons g52_ok (tab_nil fls_fun))))))))) Try.func18 (fun args w => by simp)).lend.imp fun xs h k e0 => by
  obtain ⟨a0, xs0, rfl, e1⟩ := arg_imp e0
  obtain ⟨rfl, e2⟩ := noArg_imp e1
  obtain ⟨n, m, st, w, l, t, v, beat, pw, pl, pt, ks, rfl, q, e3⟩ := e2
  obtain ⟨h0, ρ, u, rfl, hu, hl, hq⟩ := keys_lent q
  refine ⟨h0, ρ, [recAV n m st w l t u beat pw pl pt], by rw [rec_ren]; rfl, ⟨rec_under _ _ _ _ _ _ _ _ _ _ _ _ hu, trivial⟩, hl, (s18_eq J0 pSt pNum pKn s49 pEnds pPl s52 (recAV n m st w l t u beat pw pl pt) h0 _).mpr (t18 hq fun r0 r1 hr0 hr1 => ?_)⟩
  subst hr0
  subst hr1
  exact ⟨tup_flat (wr_flat (keepV_wr _ _ _ _ _ _ _ _ _ _ _)), e3⟩
theorem q19L_ok : FunOk Try.prog 19 (w19 pKeepL) := (fun_ok ty_ok mixed (gam_ok (J := J0) (tab_cons q39_ok (tab_cons g42_ok (tab_cons q53_ok (tab_cons q54_ok (tab_nil fls_fun)))))) Try.func19 (fun args w => by simp)).lend.imp fun xs h k e0 => by
  obtain ⟨a0, xs0, rfl, e1⟩ := arg_imp e0
  obtain ⟨rfl, e2⟩ := noArg_imp e1
  obtain ⟨n, m, st, w, l, t, v, beat, pw, pl, pt, ks, rfl, q, e3⟩ := e2
  obtain ⟨h0, ρ, u, rfl, hu, hl, hq⟩ := keys_lent q
  refine ⟨h0, ρ, [recAV n m st w l t u beat pw pl pt], by rw [rec_ren]; rfl, ⟨rec_under _ _ _ _ _ _ _ _ _ _ _ _ hu, trivial⟩, hl, (s19_eq J0 pSt s42 pKn pPl (recAV n m st w l t u beat pw pl pt) h0 _).mpr (t19 (fun r hx hl hb _ hk => t42 r hx hl hb hk) hq fun r0 r1 hr0 hr1 => ?_)⟩
  subst hr0
  subst hr1
  exact ⟨tup_flat (wr_flat (keepV_wr _ _ _ _ _ _ _ _ _ _ _)), e3⟩
/-- a record that was read, with its keys in a row of their own -/
noncomputable def pRec : AV → H → (AV → Int → H → Prop) → Prop := fun a h k => ∃ K V : List UInt8, a = kvAV K V ∧ K.length ≤ 140737488351232 ∧ V.length ≤ 140737488351232 ∧ ∀ n m st w l t ks beat pw pl pt e, RecP K V n m st w l t ks beat pw pl pt e →
  (ks = [] → k (recAV n m st w l t .nils beat pw pl pt) e h) ∧ ∀ mv, k (recAV n m st w l t (.slice h.next 0 ks.length ks.length 1 false) beat pw pl pt) e (pushed h (.cells mv 9 (kcells ks)))
theorem rec_fresh {K V : List UInt8} {h : H} {k : AV → H → Prop} (hk : ∀ n m st w l t ks beat pw pl pt e, RecP K V n m st w l t ks beat pw pl pt e →
    (ks = [] → k (.tuple [recAV n m st w l t .nils beat pw pl pt, .int .i64 e]) h) ∧ ∀ mv, k (.tuple [recAV n m st w l t (.slice h.next 0 ks.length ks.length 1 false) beat pw pl pt, .int .i64 e]) (pushed h (.cells mv 9 (kcells ks)))) :
    RecK K V fun r e h1 => ((AV.tuple [r, .int .i64 e]).flat = true ∧ k (.tuple [r, .int .i64 e]) h) ∨ ∃ (id : Nat) (m : Bool) (t : Nat) (cs : List AV) (r0 : AV), r0.under 1 ∧ (AV.tuple [r, .int .i64 e]) = r0.ren (fun _ => id) ∧ h1.get id = .cells m t cs ∧ AV.flatL cs = true ∧ k (r0.ren fun _ => h.next) (pushed h (.cells m t cs)) := by
  intro n m st w l t kv ks beat pw pl pt e h1 hP hR
  obtain ⟨k1, k2⟩ := hk n m st w l t ks beat pw pl pt e hP
  rcases hR with ⟨rfl, hz⟩ | ⟨id, mv, rfl, _, _, _, hg⟩
  · exact .inl ⟨rfl, k1 hz⟩
  · exact .inr ⟨id, mv, 9, kcells ks, .tuple [recAV n m st w l t (.slice 0 0 ks.length ks.length 1 false) beat pw pl pt, .int .i64 e], by simp [AV.under, AV.underL, recAV], by simp [AV.ren, AV.renL, recAV], hg, kcells_flat ks, by simpa [AV.ren, AV.renL, recAV] using k2 mv⟩
theorem q25_ok : FunOk Try.prog 25 (w25 pRec) := (fun_ok ty_ok mixed (gam_ok (J := J0) (tab_cons q18L_ok (tab_cons q33_ok (tab_cons q50_ok (tab_cons q58_ok (tab_cons q59_ok (tab_cons g63_ok (tab_nil fls_fun)))))))) Try.func25 (fun args w => by simp)).fresh.imp fun xs h k e0 => by
  obtain ⟨a0, xs0, rfl, e1⟩ := arg_imp e0
  obtain ⟨rfl, e2⟩ := noArg_imp e1
  obtain ⟨K, V, rfl, hK, hV, hk⟩ := e2
  exact ⟨rfl, (s25_eq J0 pKeepL pStR pEnds pByt pNumR g63 (kvAV K V) H0 _).mpr (t25 hV (rec_fresh hk))⟩
theorem q26_ok : FunOk Try.prog 26 (w26 pRec) := (fun_ok ty_ok mixed (gam_ok (J := J0) (tab_cons q19L_ok (tab_cons q60_ok (tab_cons q61_ok (tab_cons q62_ok (tab_cons g64_ok (tab_nil fls_fun))))))) Try.func26 (fun args w => by simp)).fresh.imp fun xs h k e0 => by
  obtain ⟨a0, xs0, rfl, e1⟩ := arg_imp e0
  obtain ⟨rfl, e2⟩ := noArg_imp e1
  obtain ⟨K, V, rfl, hK, hV, hk⟩ := e2
  exact ⟨rfl, (s26_eq J0 pKeepL pNumR pStR pByt g64 (kvAV K V) H0 _).mpr (t26 hV (rec_fresh hk))⟩
theorem q65_ok : FunOk Try.prog 65 (w65 pSames) := (fun_ok ty_ok mixed (gam_ok (J := J0) (tab_nil fls_fun)) Try.func65 (fun args w => by simp)).imp fun xs h k e0 => by
  obtain ⟨a0, xs0, rfl, e1⟩ := arg_imp e0
  obtain ⟨a1, xs1, rfl, e2⟩ := arg_imp e1
  obtain ⟨rfl, e3⟩ := noArg_imp e2
  obtain ⟨ks, q1, q2, hl, hk⟩ := e3
  exact (s65_eq J0 a0 a1 h _).mpr (t65 q1 q2 hl hk)
/-- the same record, told twice -/
noncomputable def pSame : AV → AV → H → (Bool → H → Prop) → Prop := fun a b h k => ∃ n m st w l t v1 v2 beat pw pl pt ks, a = recAV n m st w l t v1 beat pw pl pt ∧ b = recAV n m st w l t v2 beat pw pl pt ∧ KeysAt h v1 ks ∧ KeysAt h v2 ks ∧ ks.length ≤ 100000 ∧ k true h
theorem keys_lent2 {h : H} {v1 v2 : AV} {ks : List (List UInt8)} (q1 : KeysAt h v1 ks) (q2 : KeysAt h v2 ks) : ∃ (h0 : H) (ρ : Nat → Nat) (u1 u2 : AV), v1 = u1.ren ρ ∧ v2 = u2.ren ρ ∧ u1.under h0.next ∧ u2.under h0.next ∧ Lent h0 h ρ ∧ KeysAt h0 u1 ks ∧ KeysAt h0 u2 ks := by
  rcases q1 with ⟨rfl, rfl⟩ | ⟨id, c, ex, m, t, rfl, p2, p3⟩
  · obtain ⟨h0, ρ, u, e1, e2, e3, e4⟩ := keys_lent q2
    exact ⟨h0, ρ, .nils, u, rfl, e1, by simp [AV.under], e2, e3, .inl ⟨rfl, rfl⟩, e4.keys⟩
  · rcases q2 with ⟨rfl, rfl⟩ | ⟨id', c', ex', m', t', rfl, p2', p3'⟩
    · obtain ⟨h0, ρ, u, e1, e2, e3, e4⟩ := keys_lent (h := h) (v := .slice id 0 0 c 1 ex) (ks := []) (.inr ⟨id, c, ex, m, t, rfl, p2, p3⟩)
      exact ⟨h0, ρ, u, .nils, e1, rfl, e2, by simp [AV.under], e3, e4.keys, .inl ⟨rfl, rfl⟩⟩
    · refine ⟨Hg [.cells true t (kcells ks), .cells true t' (kcells ks)], fun i => if i = 0 then id else id', .slice 0 0 ks.length c 1 ex, .slice 1 0 ks.length c' 1 ex', rfl, rfl, by simp only [AV.under]; exact Nat.succ_pos _, by simp only [AV.under]; exact Nat.lt_succ_self 1, ⟨rfl, fun i hi => ?_⟩,
        .inr ⟨0, c, ex, true, t, rfl, rfl, Nat.succ_pos _⟩, .inr ⟨1, c', ex', true, t', rfl, rfl, Nat.lt_succ_self 1⟩⟩
      have hi : i < 2 := hi
      match i, hi with
      | 0, _ => exact ⟨m, t, kcells ks, rfl, kcells_flat ks, p2⟩
      | 1, _ => exact ⟨m', t', kcells ks, rfl, kcells_flat ks, p2'⟩
theorem q27_ok : FunOk Try.prog 27 (w27 pSame) := (fun_ok ty_ok mixed (gam_ok (J := J0) (tab_cons q65_ok (tab_nil fls_fun))) Try.func27 (fun args w => by simp)).lend.imp fun xs h k e0 => by
  obtain ⟨a0, xs0, rfl, e1⟩ := arg_imp e0
  obtain ⟨a1, xs1, rfl, e2⟩ := arg_imp e1
  obtain ⟨rfl, e3⟩ := noArg_imp e2
  obtain ⟨n, m, st, w, l, t, v1, v2, beat, pw, pl, pt, ks, rfl, rfl, q1, q2, hl, hk⟩ := e3
  obtain ⟨h0, ρ, u1, u2, rfl, rfl, hu1, hu2, hL, k1, k2⟩ := keys_lent2 q1 q2
  refine ⟨h0, ρ, [recAV n m st w l t u1 beat pw pl pt, recAV n m st w l t u2 beat pw pl pt], by rw [rec_ren, rec_ren]; rfl, ⟨rec_under _ _ _ _ _ _ _ _ _ _ _ _ hu1, rec_under _ _ _ _ _ _ _ _ _ _ _ _ hu2, trivial⟩, hL, (s27_eq J0 pSames _ _ h0 _).mpr (t27 k1 k2 hl fun h' => ?_)⟩
  exact ⟨rfl, hk⟩
end Go.Proofs.Ytlbigopkplckaaa
