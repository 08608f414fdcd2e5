/- The functions of the layer of versions: that each is told rightly by what it answers. MADE BY PROGRAM (mkq.py). No condition. -/
import Derived.Test.YtlbigopkplckaaaSpJ
namespace Go.Proofs.Ytlbigopkplckaaa
open Go Go.Am
set_option linter.all false
set_option maxRecDepth 100000
theorem under_str {n : Nat} {s : Str} : AV.under n (.str s) := by simp only [AV.under]
noncomputable def pPut : AV → H → (AV → Int → H → Prop) → Prop := fun a h k => ∃ (key : List UInt8) (w l t : Int) (val : List UInt8) (del : Bool), a = ceAV (Str.of key) w l t (Str.of val) del ∧ k (putV key w l t val del) (bad (okC (Str.of key) w l t (Str.of val) del)) h
noncomputable def pLay : AV → H → (AV → Int → H → Prop) → Prop := fun a h k => ∃ (key : List UInt8) (n m bw bl bt : Int) (anchor : List UInt8) (w l t : Int) (val : List UInt8) (del : Bool), a = inAV (Str.of key) n m bw bl bt (Str.of anchor) w l t (Str.of val) del ∧
  k (layV key n m bw bl bt anchor w l t val del) (bad (okI (Str.of key) n m bw bl bt (Str.of anchor) w l t (Str.of val) del)) h
noncomputable def pLift : Str → H → (AV → Int → H → Prop) → Prop := fun s h k => ∃ key : List UInt8, s = Str.of key ∧ k (liftV key) (bad (usr (Str.of key))) h
noncomputable def pKeep : AV → H → (AV → Int → H → Prop) → Prop := fun a h k => ∃ n m st w l t v beat pw pl pt h0 ks, a = recAV n m st w l t v beat pw pl pt ∧ KV h0 v ks ∧ Sub h0 h ∧ k (keepV n m st w l t ks beat pw pl pt) (knI n m st w l t ks beat pw pl pt) h
theorem putV_wr (key : List UInt8) (w l t : Int) (val : List UInt8) (del : Bool) : ∃ a b d, putV key w l t val del = wrAV a b d := by
  unfold putV; cases okC (Str.of key) w l t (Str.of val) del
  · exact ⟨_, _, _, rfl⟩
  · exact ⟨_, _, _, rfl⟩
theorem layV_wr (key : List UInt8) (n m bw bl bt : Int) (anchor : List UInt8) (w l t : Int) (val : List UInt8) (del : Bool) : ∃ a b d, layV key n m bw bl bt anchor w l t val del = wrAV a b d := by
  unfold layV; cases okI (Str.of key) n m bw bl bt (Str.of anchor) w l t (Str.of val) del
  · exact ⟨_, _, _, rfl⟩
  · exact ⟨_, _, _, rfl⟩
theorem liftV_wr (key : List UInt8) : ∃ a b d, liftV key = wrAV a b d := by
  unfold liftV; cases usr (Str.of key)
  · exact ⟨_, _, _, rfl⟩
  · exact ⟨_, _, _, rfl⟩
theorem keepV_wr (n m st w l t : Int) (ks : List (List UInt8)) (beat pw pl pt : Int) : ∃ a b d, keepV n m st w l t ks beat pw pl pt = wrAV a b d := by
  unfold keepV; cases eqI (knI n m st w l t ks beat pw pl pt) (Int.ofNat 0)
  · exact ⟨_, _, _, rfl⟩
  · exact ⟨_, _, _, rfl⟩
theorem wr_under {n : Nat} {v : AV} (h : ∃ a b d, v = wrAV a b d) : AV.under n v := by
  obtain ⟨a, b, d, rfl⟩ := h
  simp [wrAV, AV.under, AV.underL]
theorem kcells_under (n : Nat) : ∀ ks : List (List UInt8), AV.underL n (kcells ks)
  | [] => by simp [kcells, AV.underL]
  | k :: ks => by
    have h := kcells_under n ks
    have e : kcells (k :: ks) = .str (Str.of k) :: kcells ks := rfl
    rw [e]; simp only [AV.underL, AV.under, true_and]; exact h
theorem KV.rows {h0 : H} {v : AV} {ks : List (List UInt8)} (q : KV h0 v ks) : AllRows h0 := by
  rcases q with ⟨rfl, rfl, rfl⟩ | ⟨tt, c, ex, rfl, rfl⟩
  · exact .empty
  · intro id hid
    obtain rfl : id = 0 := by have : id < 1 := hid; omega
    exact .inl ⟨true, tt, kcells ks, rfl, kcells_under _ ks⟩
theorem KV.under {h0 : H} {v : AV} {ks : List (List UInt8)} (q : KV h0 v ks) : AV.under h0.next v := by
  rcases q with ⟨rfl, rfl, rfl⟩ | ⟨tt, c, ex, rfl, rfl⟩
  · simp only [AV.under]
  · simp only [AV.under]; exact Nat.one_pos

theorem q35_ok : FunOk Try.prog 35 (w35 pUsr) := (fun_ok ty_ok mixed (gam_ok (J := J0) (tab_nil fls_fun)) Try.func35 (fun args w => by simp)).alone.imp fun xs h k e0 => by
  obtain ⟨a0, xs0, rfl, e1⟩ := arg_imp e0
  obtain ⟨rfl, e2⟩ := noArg_imp e1
  obtain ⟨a0, rfl, e3⟩ := asS_iff.1 e2
  refine ⟨H0, .empty h, .empty, by simp [AV.underL, AV.under, stAV, txAV, ceAV, inAV], (s35_eq J0  a0 H0 _).mpr (t35 fun r0 hr0 => ?_)⟩
  subst hr0
  exact ⟨by simp [AV.under, AV.underL], e3⟩
theorem q43_ok : FunOk Try.prog 43 (w43 pUsr) := (fun_ok ty_ok mixed (gam_ok (J := J0) (tab_nil fls_fun)) Try.func43 (fun args w => by simp)).alone.imp fun xs h k e0 => by
  obtain ⟨a0, xs0, rfl, e1⟩ := arg_imp e0
  obtain ⟨rfl, e2⟩ := noArg_imp e1
  obtain ⟨a0, rfl, e3⟩ := asS_iff.1 e2
  refine ⟨H0, .empty h, .empty, by simp [AV.underL, AV.under, stAV, txAV, ceAV, inAV], (s43_eq J0  a0 H0 _).mpr (t43 fun r0 hr0 => ?_)⟩
  subst hr0
  exact ⟨by simp [AV.under, AV.underL], e3⟩
theorem q36_ok : FunOk Try.prog 36 (w36 pWor) := (fun_ok ty_ok mixed (gam_ok (J := J0) (tab_nil fls_fun)) Try.func36 (fun args w => by simp)).alone.imp fun xs h k e0 => by
  obtain ⟨a0, xs0, rfl, e1⟩ := arg_imp e0
  obtain ⟨a1, xs1, rfl, e2⟩ := arg_imp e1
  obtain ⟨rfl, e3⟩ := noArg_imp e2
  obtain ⟨a0, rfl, e4⟩ := asS_iff.1 e3
  obtain ⟨a1, rfl, e5⟩ := asB_iff.1 e4
  refine ⟨H0, .empty h, .empty, by simp [AV.underL, AV.under, stAV, txAV, ceAV, inAV], (s36_eq J0  a0 a1 H0 _).mpr (t36 fun r0 hr0 => ?_)⟩
  subst hr0
  exact ⟨by simp [AV.under, AV.underL], e5⟩
theorem q44_ok : FunOk Try.prog 44 (w44 pWor) := (fun_ok ty_ok mixed (gam_ok (J := J0) (tab_nil fls_fun)) Try.func44 (fun args w => by simp)).alone.imp fun xs h k e0 => by
  obtain ⟨a0, xs0, rfl, e1⟩ := arg_imp e0
  obtain ⟨a1, xs1, rfl, e2⟩ := arg_imp e1
  obtain ⟨rfl, e3⟩ := noArg_imp e2
  obtain ⟨a0, rfl, e4⟩ := asS_iff.1 e3
  obtain ⟨a1, rfl, e5⟩ := asB_iff.1 e4
  refine ⟨H0, .empty h, .empty, by simp [AV.underL, AV.under, stAV, txAV, ceAV, inAV], (s44_eq J0  a0 a1 H0 _).mpr (t44 fun r0 hr0 => ?_)⟩
  subst hr0
  exact ⟨by simp [AV.under, AV.underL], e5⟩
theorem q37_ok : FunOk Try.prog 37 (w37 pChk) := (fun_ok ty_ok mixed (gam_ok (J := J0) (tab_nil fls_fun)) Try.func37 (fun args w => by simp)).alone.imp fun xs h k e0 => by
  obtain ⟨a0, xs0, rfl, e1⟩ := arg_imp e0
  obtain ⟨rfl, e2⟩ := noArg_imp e1
  obtain ⟨w, l, t, rfl, e3⟩ := e2
  refine ⟨H0, .empty h, .empty, by simp [AV.underL, AV.under, stAV, txAV, ceAV, inAV], (s37_eq J0  (stAV w l t) H0 _).mpr (t37 fun r0 hr0 => ?_)⟩
  subst hr0
  exact ⟨by simp [AV.under, AV.underL], e3⟩
theorem q45_ok : FunOk Try.prog 45 (w45 pChk) := (fun_ok ty_ok mixed (gam_ok (J := J0) (tab_nil fls_fun)) Try.func45 (fun args w => by simp)).alone.imp fun xs h k e0 => by
  obtain ⟨a0, xs0, rfl, e1⟩ := arg_imp e0
  obtain ⟨rfl, e2⟩ := noArg_imp e1
  obtain ⟨w, l, t, rfl, e3⟩ := e2
  refine ⟨H0, .empty h, .empty, by simp [AV.underL, AV.under, stAV, txAV, ceAV, inAV], (s45_eq J0  (stAV w l t) H0 _).mpr (t45 fun r0 hr0 => ?_)⟩
  subst hr0
  exact ⟨by simp [AV.under, AV.underL], e3⟩
theorem q78_ok : FunOk Try.prog 78 (w78 pOkS) := (fun_ok ty_ok mixed (gam_ok (J := J0) (tab_nil fls_fun)) Try.func78 (fun args w => by simp)).alone.imp fun xs h k e0 => by
  obtain ⟨a0, xs0, rfl, e1⟩ := arg_imp e0
  obtain ⟨rfl, e2⟩ := noArg_imp e1
  obtain ⟨w, l, t, rfl, e3⟩ := e2
  refine ⟨H0, .empty h, .empty, by simp [AV.underL, AV.under, stAV, txAV, ceAV, inAV], (s78_eq J0  (stAV w l t) H0 _).mpr (t78 fun r0 hr0 => ?_)⟩
  subst hr0
  exact ⟨by simp [AV.under, AV.underL], e3⟩
theorem q46_ok : FunOk Try.prog 46 (w46 pTag) := (fun_ok ty_ok mixed (gam_ok (J := J0) (tab_nil fls_fun)) Try.func46 (fun args w => by simp)).alone.imp fun xs h k e0 => by
  obtain ⟨a0, xs0, rfl, e1⟩ := arg_imp e0
  obtain ⟨rfl, e2⟩ := noArg_imp e1
  obtain ⟨n, m, rfl, e3⟩ := e2
  refine ⟨H0, .empty h, .empty, by simp [AV.underL, AV.under, stAV, txAV, ceAV, inAV], (s46_eq J0  (txAV n m) H0 _).mpr (t46 fun r0 r1 hr0 hr1 => ?_)⟩
  subst hr0
  subst hr1
  exact ⟨by simp [AV.under, AV.underL], e3⟩
theorem q47_ok : FunOk Try.prog 47 (w47 pTag) := (fun_ok ty_ok mixed (gam_ok (J := J0) (tab_nil fls_fun)) Try.func47 (fun args w => by simp)).alone.imp fun xs h k e0 => by
  obtain ⟨a0, xs0, rfl, e1⟩ := arg_imp e0
  obtain ⟨rfl, e2⟩ := noArg_imp e1
  obtain ⟨n, m, rfl, e3⟩ := e2
  refine ⟨H0, .empty h, .empty, by simp [AV.underL, AV.under, stAV, txAV, ceAV, inAV], (s47_eq J0  (txAV n m) H0 _).mpr (t47 fun r0 r1 hr0 hr1 => ?_)⟩
  subst hr0
  subst hr1
  exact ⟨by simp [AV.under, AV.underL], e3⟩
theorem q50_ok : FunOk Try.prog 50 (w50 pEnds) := (fun_ok ty_ok mixed (gam_ok (J := J0) (tab_nil fls_fun)) Try.func50 (fun args w => by simp)).alone.imp fun xs h k e0 => by
  obtain ⟨a0, xs0, rfl, e1⟩ := arg_imp e0
  obtain ⟨rfl, e2⟩ := noArg_imp e1
  obtain ⟨a0, rfl, e3⟩ := asI_iff.1 e2
  refine ⟨H0, .empty h, .empty, by simp [AV.underL, AV.under, stAV, txAV, ceAV, inAV], (s50_eq J0  a0 H0 _).mpr (t50 fun r0 hr0 => ?_)⟩
  subst hr0
  exact ⟨by simp [AV.under, AV.underL], e3⟩
theorem q11_ok : FunOk Try.prog 11 (w11 pChC) := (fun_ok ty_ok mixed (gam_ok (J := J0) (tab_cons q35_ok (tab_cons q36_ok (tab_cons q37_ok (tab_nil fls_fun))))) Try.func11 (fun args w => by simp)).alone.imp fun xs h k e0 => by
  obtain ⟨a0, xs0, rfl, e1⟩ := arg_imp e0
  obtain ⟨rfl, e2⟩ := noArg_imp e1
  obtain ⟨key, w, l, t, val, del, rfl, e3⟩ := e2
  refine ⟨H0, .empty h, .empty, by simp [AV.underL, AV.under, stAV, txAV, ceAV, inAV], (s11_eq J0 pUsr pWor pChk (ceAV key w l t val del) H0 _).mpr (t11 fun r0 hr0 => ?_)⟩
  subst hr0
  exact ⟨by simp [AV.under, AV.underL], e3⟩
theorem q15_ok : FunOk Try.prog 15 (w15 pChC) := (fun_ok ty_ok mixed (gam_ok (J := J0) (tab_cons q43_ok (tab_cons q44_ok (tab_cons q45_ok (tab_nil fls_fun))))) Try.func15 (fun args w => by simp)).alone.imp fun xs h k e0 => by
  obtain ⟨a0, xs0, rfl, e1⟩ := arg_imp e0
  obtain ⟨rfl, e2⟩ := noArg_imp e1
  obtain ⟨key, w, l, t, val, del, rfl, e3⟩ := e2
  refine ⟨H0, .empty h, .empty, by simp [AV.underL, AV.under, stAV, txAV, ceAV, inAV], (s15_eq J0 pUsr pWor pChk (ceAV key w l t val del) H0 _).mpr (t15 fun r0 hr0 => ?_)⟩
  subst hr0
  exact ⟨by simp [AV.under, AV.underL], e3⟩
theorem q16_ok : FunOk Try.prog 16 (w16 pChI) := (fun_ok ty_ok mixed (gam_ok (J := J0) (tab_cons q35_ok (tab_cons q36_ok (tab_cons q37_ok (tab_cons q46_ok (tab_nil fls_fun)))))) Try.func16 (fun args w => by simp)).alone.imp fun xs h k e0 => by
  obtain ⟨a0, xs0, rfl, e1⟩ := arg_imp e0
  obtain ⟨rfl, e2⟩ := noArg_imp e1
  obtain ⟨key, n, m, bw, bl, bt, anchor, w, l, t, val, del, rfl, e3⟩ := e2
  refine ⟨H0, .empty h, .empty, by simp [AV.underL, AV.under, stAV, txAV, ceAV, inAV], (s16_eq J0 pUsr pWor pChk pTag (inAV key n m bw bl bt anchor w l t val del) H0 _).mpr (t16 fun r0 hr0 => ?_)⟩
  subst hr0
  exact ⟨by simp [AV.under, AV.underL], e3⟩
theorem q17_ok : FunOk Try.prog 17 (w17 pChI) := (fun_ok ty_ok mixed (gam_ok (J := J0) (tab_cons q43_ok (tab_cons q44_ok (tab_cons q45_ok (tab_cons q47_ok (tab_nil fls_fun)))))) Try.func17 (fun args w => by simp)).alone.imp fun xs h k e0 => by
  obtain ⟨a0, xs0, rfl, e1⟩ := arg_imp e0
  obtain ⟨rfl, e2⟩ := noArg_imp e1
  obtain ⟨key, n, m, bw, bl, bt, anchor, w, l, t, val, del, rfl, e3⟩ := e2
  refine ⟨H0, .empty h, .empty, by simp [AV.underL, AV.under, stAV, txAV, ceAV, inAV], (s17_eq J0 pUsr pWor pChk pTag (inAV key n m bw bl bt anchor w l t val del) H0 _).mpr (t17 fun r0 hr0 => ?_)⟩
  subst hr0
  exact ⟨by simp [AV.under, AV.underL], e3⟩
theorem q29_ok : FunOk Try.prog 29 (w29 pMid) := (fun_ok ty_ok mixed (gam_ok (J := J0) (tab_nil fls_fun)) Try.func29 (fun args w => by simp)).alone.imp fun xs h k e0 => by
  obtain ⟨a0, xs0, rfl, e1⟩ := arg_imp e0
  obtain ⟨a1, xs1, rfl, e2⟩ := arg_imp e1
  obtain ⟨rfl, e3⟩ := noArg_imp e2
  obtain ⟨a0, rfl, e4⟩ := asS_iff.1 e3
  obtain ⟨a1, rfl, e5⟩ := asS_iff.1 e4
  obtain ⟨c, l, rfl, rfl, hl, e6⟩ := e5
  refine ⟨H0, .empty h, .empty, by simp [AV.underL, AV.under, stAV, txAV, ceAV, inAV], (s29_eq J0  _ (Str.of l) H0 _).mpr (t29 hl fun r0 hr0 => ?_)⟩
  subst hr0
  exact ⟨by simp [AV.under, AV.underL], e6⟩
theorem q38_ok : FunOk Try.prog 38 (w38 pMidR) := (fun_ok ty_ok mixed (gam_ok (J := J0) (tab_nil fls_fun)) Try.func38 (fun args w => by simp)).alone.imp fun xs h k e0 => by
  obtain ⟨a0, xs0, rfl, e1⟩ := arg_imp e0
  obtain ⟨rfl, e2⟩ := noArg_imp e1
  obtain ⟨a0, rfl, e3⟩ := asS_iff.1 e2
  obtain ⟨l, rfl, hl, e4⟩ := e3
  refine ⟨H0, .empty h, .empty, by simp [AV.underL, AV.under, stAV, txAV, ceAV, inAV], (s38_eq J0  (Str.of l) H0 _).mpr (t38 hl fun r0 hr0 => ?_)⟩
  subst hr0
  exact ⟨by simp [AV.under, AV.underL], e4⟩
theorem q31_ok : FunOk Try.prog 31 (w31 pFlag) := (fun_ok ty_ok mixed (gam_ok (J := J0) (tab_nil fls_fun)) Try.func31 (fun args w => by simp)).alone.imp fun xs h k e0 => by
  obtain ⟨a0, xs0, rfl, e1⟩ := arg_imp e0
  obtain ⟨a1, xs1, rfl, e2⟩ := arg_imp e1
  obtain ⟨rfl, e3⟩ := noArg_imp e2
  obtain ⟨a0, rfl, e4⟩ := asB_iff.1 e3
  obtain ⟨a1, rfl, e5⟩ := asS_iff.1 e4
  obtain ⟨v, rfl, hl, e6⟩ := e5
  refine ⟨H0, .empty h, .empty, by simp [AV.underL, AV.under, stAV, txAV, ceAV, inAV], (s31_eq J0  a0 (Str.of v) H0 _).mpr (t31 hl fun r0 hr0 => ?_)⟩
  subst hr0
  exact ⟨by simp [AV.under, AV.underL], e6⟩
theorem q40_ok : FunOk Try.prog 40 (w40 pEnd0) := (fun_ok ty_ok mixed (gam_ok (J := J0) (tab_nil fls_fun)) Try.func40 (fun args w => by simp)).alone.imp fun xs h k e0 => by
  obtain ⟨a0, xs0, rfl, e1⟩ := arg_imp e0
  obtain ⟨a1, xs1, rfl, e2⟩ := arg_imp e1
  obtain ⟨a2, xs2, rfl, e3⟩ := arg_imp e2
  obtain ⟨rfl, e4⟩ := noArg_imp e3
  obtain ⟨a1, rfl, e5⟩ := asS_iff.1 e4
  obtain ⟨a2, rfl, e6⟩ := asB_iff.1 e5
  obtain ⟨v, rfl, rfl, hl, e7⟩ := e6
  refine ⟨H0, .empty h, .empty, by simp [AV.underL, AV.under, stAV, txAV, ceAV, inAV], (s40_eq J0  .nils (Str.of v) a2 H0 _).mpr (tEnd0 hl fun r0 hr0 => ?_)⟩
  subst hr0
  exact ⟨by simp [AV.under, AV.underL], e7⟩
theorem q41_ok : FunOk Try.prog 41 (w41 pNum) := (fun_ok ty_ok mixed (gam_ok (J := J0) (tab_cons g69_ok (tab_nil fls_fun))) Try.func41 (fun args w => by simp)).alone.imp fun xs h k e0 => by
  obtain ⟨a0, xs0, rfl, e1⟩ := arg_imp e0
  obtain ⟨rfl, e2⟩ := noArg_imp e1
  obtain ⟨a0, rfl, e3⟩ := asI_iff.1 e2
  obtain ⟨n, rfl, hl, e4⟩ := e3
  refine ⟨H0, .empty h, .empty, by simp [AV.underL, AV.under, stAV, txAV, ceAV, inAV], (s41_eq J0 s69 (Int.ofNat n) H0 _).mpr (t41 hl fun r0 hr0 => ?_)⟩
  subst hr0
  exact ⟨by simp [AV.under, AV.underL], e4⟩
theorem q66_ok : FunOk Try.prog 66 (w66 pSt2) := (fun_ok ty_ok mixed (gam_ok (J := J0) (tab_cons g52_ok (tab_cons q78_ok (tab_cons g79_ok (tab_nil fls_fun))))) Try.func66 (fun args w => by simp)).alone.imp fun xs h k e0 => by
  obtain ⟨a0, xs0, rfl, e1⟩ := arg_imp e0
  obtain ⟨rfl, e2⟩ := noArg_imp e1
  obtain ⟨w, l, t, rfl, ho, e3⟩ := e2
  refine ⟨H0, .empty h, .empty, by simp [AV.underL, AV.under, stAV, txAV, ceAV, inAV], (s66_eq J0 s52 pOkS s79 (stAV w l t) H0 _).mpr (t66 ho fun r0 r1 hr0 hr1 => ?_)⟩
  subst hr0
  subst hr1
  exact ⟨by simp [AV.under, AV.underL], e3⟩
theorem q68_ok : FunOk Try.prog 68 (w68 pSt2) := (fun_ok ty_ok mixed (gam_ok (J := J0) (tab_cons g81_ok (tab_nil fls_fun))) Try.func68 (fun args w => by simp)).alone.imp fun xs h k e0 => by
  obtain ⟨a0, xs0, rfl, e1⟩ := arg_imp e0
  obtain ⟨rfl, e2⟩ := noArg_imp e1
  obtain ⟨w, l, t, rfl, ho, e3⟩ := e2
  refine ⟨H0, .empty h, .empty, by simp [AV.underL, AV.under, stAV, txAV, ceAV, inAV], (s68_eq J0 s81 (stAV w l t) H0 _).mpr (t68 (fun x h K hb hk => t81 hb hk) ho fun r0 r1 hr0 hr1 => ?_)⟩
  subst hr0
  subst hr1
  exact ⟨by simp [AV.under, AV.underL], e3⟩
theorem q30_ok : FunOk Try.prog 30 (w30 pSt) := (fun_ok ty_ok mixed (gam_ok (J := J0) (tab_cons q66_ok (tab_nil fls_fun))) Try.func30 (fun args w => by simp)).alone.imp fun xs h k e0 => by
  obtain ⟨a0, xs0, rfl, e1⟩ := arg_imp e0
  obtain ⟨rfl, e2⟩ := noArg_imp e1
  obtain ⟨w, l, t, rfl, ho, e3⟩ := e2
  refine ⟨H0, .empty h, .empty, by simp [AV.underL, AV.under, stAV, txAV, ceAV, inAV], (s30_eq J0 pSt2 (stAV w l t) H0 _).mpr (t30 ho fun r0 hr0 => ?_)⟩
  subst hr0
  exact ⟨by simp [AV.under, AV.underL], e3⟩
theorem q39_ok : FunOk Try.prog 39 (w39 pSt) := (fun_ok ty_ok mixed (gam_ok (J := J0) (tab_cons q68_ok (tab_nil fls_fun))) Try.func39 (fun args w => by simp)).alone.imp fun xs h k e0 => by
  obtain ⟨a0, xs0, rfl, e1⟩ := arg_imp e0
  obtain ⟨rfl, e2⟩ := noArg_imp e1
  obtain ⟨w, l, t, rfl, ho, e3⟩ := e2
  refine ⟨H0, .empty h, .empty, by simp [AV.underL, AV.under, stAV, txAV, ceAV, inAV], (s39_eq J0 pSt2 (stAV w l t) H0 _).mpr (t39 ho fun r0 hr0 => ?_)⟩
  subst hr0
  exact ⟨by simp [AV.under, AV.underL], e3⟩
theorem q73_ok : FunOk Try.prog 73 (w73 pFour) := (fun_ok ty_ok mixed (gam_ok (J := J0) (tab_nil fls_fun)) Try.func73 (fun args w => by simp)).alone.imp fun xs h k e0 => by
  obtain ⟨a0, xs0, rfl, e1⟩ := arg_imp e0
  obtain ⟨rfl, e2⟩ := noArg_imp e1
  obtain ⟨a0, rfl, e3⟩ := asI_iff.1 e2
  obtain ⟨m, rfl, e4⟩ := e3
  refine ⟨H0, .empty h, .empty, by simp [AV.underL, AV.under, stAV, txAV, ceAV, inAV], (s73_eq J0  (Int.ofNat m) H0 _).mpr (t73 fun r0 hr0 => ?_)⟩
  subst hr0
  exact ⟨by simp [AV.under, AV.underL], e4⟩
theorem q75_ok : FunOk Try.prog 75 (w75 pFour) := (fun_ok ty_ok mixed (gam_ok (J := J0) (tab_nil fls_fun)) Try.func75 (fun args w => by simp)).alone.imp fun xs h k e0 => by
  obtain ⟨a0, xs0, rfl, e1⟩ := arg_imp e0
  obtain ⟨rfl, e2⟩ := noArg_imp e1
  obtain ⟨a0, rfl, e3⟩ := asI_iff.1 e2
  obtain ⟨m, rfl, e4⟩ := e3
  refine ⟨H0, .empty h, .empty, by simp [AV.underL, AV.under, stAV, txAV, ceAV, inAV], (s75_eq J0  (Int.ofNat m) H0 _).mpr (t75 fun r0 hr0 => ?_)⟩
  subst hr0
  exact ⟨by simp [AV.under, AV.underL], e4⟩
theorem q51_ok : FunOk Try.prog 51 (w51 pPl) := (fun_ok ty_ok mixed (gam_ok (J := J0) (tab_cons q73_ok (tab_nil fls_fun))) Try.func51 (fun args w => by simp)).alone.imp fun xs h k e0 => by
  obtain ⟨a0, xs0, rfl, e1⟩ := arg_imp e0
  obtain ⟨rfl, e2⟩ := noArg_imp e1
  obtain ⟨n, m, rfl, e3⟩ := e2
  refine ⟨H0, .empty h, .empty, by simp [AV.underL, AV.under, stAV, txAV, ceAV, inAV], (s51_eq J0 pFour (txAV (Int.ofNat n) (Int.ofNat m)) H0 _).mpr (t51 fun r0 hr0 => ?_)⟩
  subst hr0
  exact ⟨by simp [AV.under, AV.underL], e3⟩
theorem q54_ok : FunOk Try.prog 54 (w54 pPl) := (fun_ok ty_ok mixed (gam_ok (J := J0) (tab_cons q75_ok (tab_nil fls_fun))) Try.func54 (fun args w => by simp)).alone.imp fun xs h k e0 => by
  obtain ⟨a0, xs0, rfl, e1⟩ := arg_imp e0
  obtain ⟨rfl, e2⟩ := noArg_imp e1
  obtain ⟨n, m, rfl, e3⟩ := e2
  refine ⟨H0, .empty h, .empty, by simp [AV.underL, AV.under, stAV, txAV, ceAV, inAV], (s54_eq J0 pFour (txAV (Int.ofNat n) (Int.ofNat m)) H0 _).mpr (t54 fun r0 hr0 => ?_)⟩
  subst hr0
  exact ⟨by simp [AV.under, AV.underL], e3⟩
theorem q7_ok : FunOk Try.prog 7 (w7 pPut) := (fun_ok ty_ok mixed (gam_ok (J := J0) (tab_cons q11_ok (tab_cons q29_ok (tab_cons q30_ok (tab_cons q31_ok (tab_nil fls_fun)))))) Try.func7 (fun args w => by simp)).alone.imp fun xs h k e0 => by
  obtain ⟨a0, xs0, rfl, e1⟩ := arg_imp e0
  obtain ⟨rfl, e2⟩ := noArg_imp e1
  obtain ⟨key, w, l, t, val, del, rfl, e3⟩ := e2
  refine ⟨H0, .empty h, .empty, by simp [AV.underL, AV.under, stAV, txAV, ceAV, inAV], (s7_eq J0 pChC pMid pSt pFlag (ceAV (Str.of key) w l t (Str.of val) del) H0 _).mpr (t7 fun r0 r1 hr0 hr1 => ?_)⟩
  subst hr0
  subst hr1
  exact ⟨by first | exact wr_under (putV_wr _ _ _ _ _ _) | (simp only [AV.under, AV.underL, and_true]; exact wr_under (putV_wr _ _ _ _ _ _)), e3⟩
theorem q12_ok : FunOk Try.prog 12 (w12 pPut) := (fun_ok ty_ok mixed (gam_ok (J := J0) (tab_cons q15_ok (tab_cons q38_ok (tab_cons q39_ok (tab_cons q40_ok (tab_nil fls_fun)))))) Try.func12 (fun args w => by simp)).alone.imp fun xs h k e0 => by
  obtain ⟨a0, xs0, rfl, e1⟩ := arg_imp e0
  obtain ⟨rfl, e2⟩ := noArg_imp e1
  obtain ⟨key, w, l, t, val, del, rfl, e3⟩ := e2
  refine ⟨H0, .empty h, .empty, by simp [AV.underL, AV.under, stAV, txAV, ceAV, inAV], (s12_eq J0 pChC pMidR pSt pEnd0 (ceAV (Str.of key) w l t (Str.of val) del) H0 _).mpr (t12 fun r0 r1 hr0 hr1 => ?_)⟩
  subst hr0
  subst hr1
  exact ⟨by first | exact wr_under (putV_wr _ _ _ _ _ _) | (simp only [AV.under, AV.underL, and_true]; exact wr_under (putV_wr _ _ _ _ _ _)), e3⟩
theorem q20_ok : FunOk Try.prog 20 (w20 pLift) := (fun_ok ty_ok mixed (gam_ok (J := J0) (tab_cons q29_ok (tab_cons q35_ok (tab_nil fls_fun)))) Try.func20 (fun args w => by simp)).alone.imp fun xs h k e0 => by
  obtain ⟨a0, xs0, rfl, e1⟩ := arg_imp e0
  obtain ⟨rfl, e2⟩ := noArg_imp e1
  obtain ⟨a0, rfl, e3⟩ := asS_iff.1 e2
  obtain ⟨key, rfl, e4⟩ := e3
  refine ⟨H0, .empty h, .empty, by simp [AV.underL, AV.under, stAV, txAV, ceAV, inAV], (s20_eq J0 pMid pUsr (Str.of key) H0 _).mpr (t20 fun r0 r1 hr0 hr1 => ?_)⟩
  subst hr0
  subst hr1
  exact ⟨by first | exact wr_under (liftV_wr _) | (simp only [AV.under, AV.underL, and_true]; exact wr_under (liftV_wr _)), e4⟩
theorem q21_ok : FunOk Try.prog 21 (w21 pLift) := (fun_ok ty_ok mixed (gam_ok (J := J0) (tab_cons q38_ok (tab_cons q43_ok (tab_nil fls_fun)))) Try.func21 (fun args w => by simp)).alone.imp fun xs h k e0 => by
  obtain ⟨a0, xs0, rfl, e1⟩ := arg_imp e0
  obtain ⟨rfl, e2⟩ := noArg_imp e1
  obtain ⟨a0, rfl, e3⟩ := asS_iff.1 e2
  obtain ⟨key, rfl, e4⟩ := e3
  refine ⟨H0, .empty h, .empty, by simp [AV.underL, AV.under, stAV, txAV, ceAV, inAV], (s21_eq J0 pMidR pUsr (Str.of key) H0 _).mpr (t21 fun r0 r1 hr0 hr1 => ?_)⟩
  subst hr0
  subst hr1
  exact ⟨by first | exact wr_under (liftV_wr _) | (simp only [AV.under, AV.underL, and_true]; exact wr_under (liftV_wr _)), e4⟩
theorem q13_ok : FunOk Try.prog 13 (w13 pLay) := (fun_ok ty_ok mixed (gam_ok (J := J0) (tab_cons q16_ok (tab_cons q29_ok (tab_cons q30_ok (tab_cons q31_ok (tab_cons q41_ok (tab_nil fls_fun))))))) Try.func13 (fun args w => by simp)).alone.imp fun xs h k e0 => by
  obtain ⟨a0, xs0, rfl, e1⟩ := arg_imp e0
  obtain ⟨rfl, e2⟩ := noArg_imp e1
  obtain ⟨key, n, m, bw, bl, bt, anchor, w, l, t, val, del, rfl, e3⟩ := e2
  refine ⟨H0, .empty h, .empty, by simp [AV.underL, AV.under, stAV, txAV, ceAV, inAV], (s13_eq J0 pChI pMid pSt pFlag pNum (inAV (Str.of key) n m bw bl bt (Str.of anchor) w l t (Str.of val) del) H0 _).mpr (t13 fun r0 r1 hr0 hr1 => ?_)⟩
  subst hr0
  subst hr1
  exact ⟨by first | exact wr_under (layV_wr _ _ _ _ _ _ _ _ _ _ _ _) | (simp only [AV.under, AV.underL, and_true]; exact wr_under (layV_wr _ _ _ _ _ _ _ _ _ _ _ _)), e3⟩
theorem q14_ok : FunOk Try.prog 14 (w14 pLay) := (fun_ok ty_ok mixed (gam_ok (J := J0) (tab_cons q17_ok (tab_cons q38_ok (tab_cons q39_ok (tab_cons g40_ok (tab_cons g42_ok (tab_nil fls_fun))))))) Try.func14 (fun args w => by simp)).alone.imp fun xs h k e0 => by
  obtain ⟨a0, xs0, rfl, e1⟩ := arg_imp e0
  obtain ⟨rfl, e2⟩ := noArg_imp e1
  obtain ⟨key, n, m, bw, bl, bt, anchor, w, l, t, val, del, rfl, e3⟩ := e2
  refine ⟨H0, .empty h, .empty, by simp [AV.underL, AV.under, stAV, txAV, ceAV, inAV], (s14_eq J0 pChI pMidR pSt s40 s42 (inAV (Str.of key) n m bw bl bt (Str.of anchor) w l t (Str.of val) del) H0 _).mpr (t14 (fun r hx hl hb _ hk => t42 r hx hl hb hk) (fun r hb hn hl hv _ hk => t40 r hb hn hl hv hk) fun r0 r1 hr0 hr1 => ?_)⟩
  subst hr0
  subst hr1
  exact ⟨by first | exact wr_under (layV_wr _ _ _ _ _ _ _ _ _ _ _ _) | (simp only [AV.under, AV.underL, and_true]; exact wr_under (layV_wr _ _ _ _ _ _ _ _ _ _ _ _)), e3⟩
theorem q82_ok : FunOk Try.prog 82 (w82 pRis) := (fun_ok ty_ok mixed (gam_ok (J := J0) (tab_nil fls_fun)) Try.func82 (fun args w => by simp)).imp fun xs h k e0 => by
  obtain ⟨a0, xs0, rfl, e1⟩ := arg_imp e0
  obtain ⟨rfl, e2⟩ := noArg_imp e1
  obtain ⟨ks, q, hl, e3⟩ := e2
  refine (s82_eq J0 a0 h _).mpr (t82 q hl fun r hr => ?_)
  subst hr
  exact e3
theorem q84_ok : FunOk Try.prog 84 (w84 pFine) := (fun_ok ty_ok mixed (gam_ok (J := J0) (tab_nil fls_fun)) Try.func84 (fun args w => by simp)).imp fun xs h k e0 => by
  obtain ⟨a0, xs0, rfl, e1⟩ := arg_imp e0
  obtain ⟨rfl, e2⟩ := noArg_imp e1
  obtain ⟨ks, q, hl, e3⟩ := e2
  refine (s84_eq J0 a0 h _).mpr (t84 q hl fun r hr => ?_)
  subst hr
  rw [Bool.and_comm]; exact e3
theorem q71_ok : FunOk Try.prog 71 (w71 pChkR) := (fun_ok ty_ok mixed (gam_ok (J := J0) (tab_cons q37_ok (tab_cons q46_ok (tab_cons q82_ok (tab_nil fls_fun))))) Try.func71 (fun args w => by simp)).alone.imp fun xs h k e0 => by
  obtain ⟨a0, xs0, rfl, e1⟩ := arg_imp e0
  obtain ⟨rfl, e2⟩ := noArg_imp e1
  obtain ⟨n, m, st, w, l, t, v, beat, pw, pl, pt, h0, ks, rfl, q, sb, e3⟩ := e2
  refine ⟨h0, sb, q.rows, by simp only [AV.underL, AV.under, recAV, and_true, true_and]; exact q.under, (s71_eq J0 pChk pTag pRis (recAV n m st w l t v beat pw pl pt) h0 _).mpr (t71 q fun r0 hr0 => ?_)⟩
  subst hr0
  exact ⟨by simp [AV.under, AV.underL], e3⟩
theorem q74_ok : FunOk Try.prog 74 (w74 pChkR) := (fun_ok ty_ok mixed (gam_ok (J := J0) (tab_cons q45_ok (tab_cons q47_ok (tab_cons q84_ok (tab_nil fls_fun))))) Try.func74 (fun args w => by simp)).alone.imp fun xs h k e0 => by
  obtain ⟨a0, xs0, rfl, e1⟩ := arg_imp e0
  obtain ⟨rfl, e2⟩ := noArg_imp e1
  obtain ⟨n, m, st, w, l, t, v, beat, pw, pl, pt, h0, ks, rfl, q, sb, e3⟩ := e2
  refine ⟨h0, sb, q.rows, by simp only [AV.underL, AV.under, recAV, and_true, true_and]; exact q.under, (s74_eq J0 pChk pTag pFine (recAV n m st w l t v beat pw pl pt) h0 _).mpr (t74 q fun r0 hr0 => ?_)⟩
  subst hr0
  exact ⟨by simp [AV.under, AV.underL], e3⟩
theorem q48_ok : FunOk Try.prog 48 (w48 pKn) := (fun_ok ty_ok mixed (gam_ok (J := J0) (tab_cons q35_ok (tab_cons q71_ok (tab_nil fls_fun)))) Try.func48 (fun args w => by simp)).alone.imp fun xs h k e0 => by
  obtain ⟨a0, xs0, rfl, e1⟩ := arg_imp e0
  obtain ⟨rfl, e2⟩ := noArg_imp e1
  obtain ⟨n, m, st, w, l, t, v, beat, pw, pl, pt, h0, ks, rfl, q, sb, e3⟩ := e2
  refine ⟨h0, sb, q.rows, by simp only [AV.underL, AV.under, recAV, and_true, true_and]; exact q.under, (s48_eq J0 pUsr pChkR (recAV n m st w l t v beat pw pl pt) h0 _).mpr (t48 q fun r0 hr0 => ?_)⟩
  subst hr0
  exact ⟨by simp [AV.under, AV.underL], e3⟩
theorem q53_ok : FunOk Try.prog 53 (w53 pKn) := (fun_ok ty_ok mixed (gam_ok (J := J0) (tab_cons q43_ok (tab_cons q74_ok (tab_nil fls_fun)))) Try.func53 (fun args w => by simp)).alone.imp fun xs h k e0 => by
  obtain ⟨a0, xs0, rfl, e1⟩ := arg_imp e0
  obtain ⟨rfl, e2⟩ := noArg_imp e1
  obtain ⟨n, m, st, w, l, t, v, beat, pw, pl, pt, h0, ks, rfl, q, sb, e3⟩ := e2
  refine ⟨h0, sb, q.rows, by simp only [AV.underL, AV.under, recAV, and_true, true_and]; exact q.under, (s53_eq J0 pUsr pChkR (recAV n m st w l t v beat pw pl pt) h0 _).mpr (t53 q fun r0 hr0 => ?_)⟩
  subst hr0
  exact ⟨by simp [AV.under, AV.underL], e3⟩
theorem q18_ok : FunOk Try.prog 18 (w18 pKeep) := (fun_ok ty_ok mixed (gam_ok (J := J0) (tab_cons q30_ok (tab_cons q41_ok (tab_cons q48_ok (tab_cons g49_ok (tab_cons q50_ok (tab_cons q51_ok (tab_cons g52_ok (tab_nil fls_fun))))))))) Try.func18 (fun args w => by simp)).alone.imp fun xs h k e0 => by
  obtain ⟨a0, xs0, rfl, e1⟩ := arg_imp e0
  obtain ⟨rfl, e2⟩ := noArg_imp e1
  obtain ⟨n, m, st, w, l, t, v, beat, pw, pl, pt, h0, ks, rfl, q, sb, e3⟩ := e2
  refine ⟨h0, sb, q.rows, by simp only [AV.underL, AV.under, recAV, and_true, true_and]; exact q.under, (s18_eq J0 pSt pNum pKn s49 pEnds pPl s52 (recAV n m st w l t v beat pw pl pt) h0 _).mpr (t18 q fun r0 r1 hr0 hr1 => ?_)⟩
  subst hr0
  subst hr1
  exact ⟨by first | exact wr_under (keepV_wr _ _ _ _ _ _ _ _ _ _ _) | (simp only [AV.under, AV.underL, and_true]; exact wr_under (keepV_wr _ _ _ _ _ _ _ _ _ _ _)), e3⟩
theorem q19_ok : FunOk Try.prog 19 (w19 pKeep) := (fun_ok ty_ok mixed (gam_ok (J := J0) (tab_cons q39_ok (tab_cons g42_ok (tab_cons q53_ok (tab_cons q54_ok (tab_nil fls_fun)))))) Try.func19 (fun args w => by simp)).alone.imp fun xs h k e0 => by
  obtain ⟨a0, xs0, rfl, e1⟩ := arg_imp e0
  obtain ⟨rfl, e2⟩ := noArg_imp e1
  obtain ⟨n, m, st, w, l, t, v, beat, pw, pl, pt, h0, ks, rfl, q, sb, e3⟩ := e2
  refine ⟨h0, sb, q.rows, by simp only [AV.underL, AV.under, recAV, and_true, true_and]; exact q.under, (s19_eq J0 pSt s42 pKn pPl (recAV n m st w l t v beat pw pl pt) h0 _).mpr (t19 (fun r hx hl hb _ hk => t42 r hx hl hb hk) q fun r0 r1 hr0 hr1 => ?_)⟩
  subst hr0
  subst hr1
  exact ⟨by first | exact wr_under (keepV_wr _ _ _ _ _ _ _ _ _ _ _) | (simp only [AV.under, AV.underL, and_true]; exact wr_under (keepV_wr _ _ _ _ _ _ _ _ _ _ _)), e3⟩
/-! ## the chapter's examples -/
theorem lives_run : (AV.bool true = AV.bool true) = g9 [] H0 isT := by kernel_rfl
noncomputable def pLives : H → (Bool → H → Prop) → Prop := fun h k => k true h
theorem q9_ok : FunOk Try.prog 9 (w9 pLives) :=
  (g9_ok.up (g' := fun xs h k => g9 xs h isT ∧ ∀ h', k (.bool true) h') fun xs h k ⟨h1, h2⟩ => ⟨isT, h1, fun r h' hr => by cases hr; exact h2 h'⟩).alone.imp fun xs h k e0 => by
    obtain ⟨rfl, e1⟩ := noArg_imp e0
    exact ⟨H0, .empty h, .empty, by simp [AV.underL], of_run lives_run, fun h' => ⟨by simp [AV.under], e1⟩⟩
end Go.Proofs.Ytlbigopkplckaaa
