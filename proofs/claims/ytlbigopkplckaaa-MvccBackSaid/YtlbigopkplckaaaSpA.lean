/- The functions of the layer of versions, each told by what it answers: the plain ones. No condition. -/
import Derived.Test.YtlbigopkplckaaaAmS1
import Derived.Test.YtlbigopkplckaaaAmL7
namespace Go.Proofs.Ytlbigopkplckaaa
open Go Go.Am
set_option linter.all false
set_option maxRecDepth 100000
theorem rec_intro {c : Bool} {A B : Prop} (h1 : c = true → A) (h0 : c = false → B) : (Bool.rec (motive := fun _ => Prop) B A c) := by
  cases c
  · exact h0 rfl
  · exact h1 rfl
theorem rec_true {c : Bool} {A B : Prop} (h : c = true) (h1 : A) : (Bool.rec (motive := fun _ => Prop) B A c) := by rw [h]; exact h1
theorem rec_false {c : Bool} {A B : Prop} (h : c = false) (h1 : B) : (Bool.rec (motive := fun _ => Prop) B A c) := by rw [h]; exact h1
/-! ## what is answered -/
/-- ErrArg, if something is wrong -/
def bad (b : Bool) : Int := cond b (Int.ofNat 0) (Int.ofNat 2)
theorem eqI_bad (b : Bool) : eqI (bad b) (Int.ofNat 0) = b := by cases b <;> rfl
theorem eqI_bad' (b : Bool) : eqI (bad b) 0 = b := eqI_bad b
theorem bad_t : bad true = 0 := rfl
theorem bad_f : bad false = 2 := rfl
noncomputable def okS (w l t : Int) : Bool := !(ltI w (Int.ofNat 0)) && (!(ltI (Int.ofNat 1099511627776) w) && (!(ltI l (Int.ofNat 0)) && (!(ltI (Int.ofNat 1048576) l) && (!(ltI t (Int.ofNat 0)) && !(ltI (Int.ofNat 1048576) t)))))
noncomputable def usr (s : Str) : Bool := !(ltI (Int.ofNat s.len) (Int.ofNat 1)) && !(ltI (Int.ofNat 128) (Int.ofNat s.len))
noncomputable def wor (s : Str) (d : Bool) : Bool := !(ltI (Int.ofNat 2048) (Int.ofNat s.len)) && (!d || Str.beq s ⟨0, 0⟩)
noncomputable def okT (n m : Int) : Bool := !(ltI n (Int.ofNat 0)) && (ltI n (Int.ofNat 7) && (!(ltI m (Int.ofNat 1)) && !(ltI (Int.ofNat 100000) m)))
noncomputable def tagI (n m : Int) : Int := cond (okT n m) (wrapF .i32 (Int.add (wrapF .i32 (Int.mul m (Int.ofNat 8))) n)) (Int.ofNat 0)
noncomputable def okC (key : Str) (w l t : Int) (val : Str) (del : Bool) : Bool := usr key && (wor val del && okS w l t)
noncomputable def okI (key : Str) (n m bw bl bt : Int) (anchor : Str) (w l t : Int) (val : Str) (del : Bool) : Bool :=
  okT n m && (usr key && (usr anchor && (wor val del && (okS bw bl bt && (okS w l t && eqI t (tagI n m))))))
def stAV (w l t : Int) : AV := .agg [.int .i64 w, .int .i32 l, .int .i32 t]
def txAV (n m : Int) : AV := .agg [.int .i32 n, .int .i32 m]
def ceAV (key : Str) (w l t : Int) (val : Str) (del : Bool) : AV := .agg [.str key, .int .i64 w, .int .i32 l, .int .i32 t, .str val, .bool del]
def inAV (key : Str) (n m bw bl bt : Int) (anchor : Str) (w l t : Int) (val : Str) (del : Bool) : AV :=
  .agg [.str key, .int .i32 n, .int .i32 m, .int .i64 bw, .int .i32 bl, .int .i32 bt, .str anchor, .int .i64 w, .int .i32 l, .int .i32 t, .str val, .bool del]
def wrAV (k v : Str) (d : Bool) : AV := .agg [.str k, .str v, .bool d]
/-! ## the summaries -/
noncomputable def pUsr : Str → H → (Bool → H → Prop) → Prop := fun s h k => k (usr s) h
noncomputable def pWor : Str → Bool → H → (Bool → H → Prop) → Prop := fun s d h k => k (wor s d) h
noncomputable def pChk : AV → H → (Int → H → Prop) → Prop := fun a h k => ∃ w l t, a = stAV w l t ∧ k (bad (okS w l t)) h
noncomputable def pOkS : AV → H → (Bool → H → Prop) → Prop := fun a h k => ∃ w l t, a = stAV w l t ∧ k (okS w l t) h
noncomputable def pTag : AV → H → (Int → Int → H → Prop) → Prop := fun a h k => ∃ n m, a = txAV n m ∧ k (tagI n m) (bad (okT n m)) h
noncomputable def pEnds : Int → H → (Bool → H → Prop) → Prop := fun s h k => k (eqI s (Int.ofNat 2) || eqI s (Int.ofNat 3)) h
noncomputable def pChC : AV → H → (Int → H → Prop) → Prop := fun a h k => ∃ key w l t val del, a = ceAV key w l t val del ∧ k (bad (okC key w l t val del)) h
noncomputable def pChI : AV → H → (Int → H → Prop) → Prop := fun a h k => ∃ key n m bw bl bt anchor w l t val del, a = inAV key n m bw bl bt anchor w l t val del ∧ k (bad (okI key n m bw bl bt anchor w l t val del)) h
/-! ## the runs -/
section
variable {K : Int → Prop} {KB : Bool → Prop} {KI : Int → Int → Prop}
theorem t37 {w l t : Int} (hk : ∀ r, r = bad (okS w l t) → K r) : s37G J0 (stAV w l t) H0 fun r _ => K r := by
  repeat' ((conv => whnf); first | exact hk _ (by simp_all [okS, bad_t, bad_f]) | refine ⟨_, _, _, rfl, ?_⟩ | refine ⟨_, _, rfl, ?_⟩ | refine rec_intro (fun _ => ?_) (fun _ => ?_))
theorem t45 {w l t : Int} (hk : ∀ r, r = bad (okS w l t) → K r) : s45G J0 (stAV w l t) H0 fun r _ => K r := by
  repeat' ((conv => whnf); first | exact hk _ (by simp_all [okS, bad_t, bad_f]) | refine ⟨_, _, _, rfl, ?_⟩ | refine ⟨_, _, rfl, ?_⟩ | refine rec_intro (fun _ => ?_) (fun _ => ?_))
theorem t78 {w l t : Int} (hk : ∀ r, r = okS w l t → KB r) : s78G J0 (stAV w l t) H0 fun r _ => KB r := by
  repeat' ((conv => whnf); first | exact hk _ (by simp_all [okS]) | refine ⟨_, _, _, rfl, ?_⟩ | refine ⟨_, _, rfl, ?_⟩ | refine rec_intro (fun _ => ?_) (fun _ => ?_))
theorem t35 {s : Str} (hk : ∀ r, r = usr s → KB r) : s35G J0 s H0 fun r _ => KB r := by
  repeat' ((conv => whnf); first | exact hk _ (by simp_all [usr]) | refine ⟨_, _, _, rfl, ?_⟩ | refine ⟨_, _, rfl, ?_⟩ | refine rec_intro (fun _ => ?_) (fun _ => ?_))
theorem t43 {s : Str} (hk : ∀ r, r = usr s → KB r) : s43G J0 s H0 fun r _ => KB r := by
  repeat' ((conv => whnf); first | exact hk _ (by simp_all [usr]) | refine ⟨_, _, _, rfl, ?_⟩ | refine ⟨_, _, rfl, ?_⟩ | refine rec_intro (fun _ => ?_) (fun _ => ?_))
theorem t36 {s : Str} {d : Bool} (hk : ∀ r, r = wor s d → KB r) : s36G J0 s d H0 fun r _ => KB r := by
  cases d
  all_goals
    repeat' ((conv => whnf); first | exact hk _ (by simp_all [wor]) | refine ⟨_, _, _, rfl, ?_⟩ | refine ⟨_, _, rfl, ?_⟩ | refine rec_intro (fun _ => ?_) (fun _ => ?_))
theorem t44 {s : Str} {d : Bool} (hk : ∀ r, r = wor s d → KB r) : s44G J0 s d H0 fun r _ => KB r := by
  cases d
  all_goals
    repeat' ((conv => whnf); first | exact hk _ (by simp_all [wor]) | refine ⟨_, _, _, rfl, ?_⟩ | refine ⟨_, _, rfl, ?_⟩ | refine rec_intro (fun _ => ?_) (fun _ => ?_))
theorem t46 {n m : Int} (hk : ∀ r e, r = tagI n m → e = bad (okT n m) → KI r e) : s46G J0 (txAV n m) H0 fun r e _ => KI r e := by
  unfold s46G
  simp only [fI_eq]
  repeat' ((conv => whnf); first | exact hk _ _ (by simp_all [tagI, okT]) (by simp_all [okT, bad_t, bad_f]) | refine rec_intro (fun _ => ?_) (fun _ => ?_))
theorem t47 {n m : Int} (hk : ∀ r e, r = tagI n m → e = bad (okT n m) → KI r e) : s47G J0 (txAV n m) H0 fun r e _ => KI r e := by
  unfold s47G
  simp only [fI_eq]
  repeat' ((conv => whnf); first | exact hk _ _ (by simp_all [tagI, okT]) (by simp_all [okT, bad_t, bad_f]) | refine rec_intro (fun _ => ?_) (fun _ => ?_))
theorem t50 {s : Int} (hk : ∀ r, r = (eqI s (Int.ofNat 2) || eqI s (Int.ofNat 3)) → KB r) : s50G J0 s H0 fun r _ => KB r := by
  repeat' ((conv => whnf); first | exact hk _ (by simp_all [or_true]) | refine ⟨_, _, _, rfl, ?_⟩ | refine ⟨_, _, rfl, ?_⟩ | refine rec_intro (fun _ => ?_) (fun _ => ?_))
theorem t11 {key : Str} {w l t : Int} {val : Str} {del : Bool} (hk : ∀ r, r = bad (okC key w l t val del) → K r) : s11G J0 pUsr pWor pChk (ceAV key w l t val del) H0 fun r _ => K r := by
  repeat' ((conv => whnf); first | exact hk _ (by simp_all [okC, bad_t, bad_f, eqI_bad, eqI_bad']) | refine ⟨_, _, _, rfl, ?_⟩ | refine ⟨_, _, rfl, ?_⟩ | refine rec_intro (fun _ => ?_) (fun _ => ?_))
theorem t15 {key : Str} {w l t : Int} {val : Str} {del : Bool} (hk : ∀ r, r = bad (okC key w l t val del) → K r) : s15G J0 pUsr pWor pChk (ceAV key w l t val del) H0 fun r _ => K r := by
  repeat' ((conv => whnf); first | exact hk _ (by simp_all [okC, bad_t, bad_f, eqI_bad, eqI_bad']) | refine ⟨_, _, _, rfl, ?_⟩ | refine ⟨_, _, rfl, ?_⟩ | refine rec_intro (fun _ => ?_) (fun _ => ?_))
theorem t16 {key : Str} {n m bw bl bt : Int} {anchor : Str} {w l t : Int} {val : Str} {del : Bool} (hk : ∀ r, r = bad (okI key n m bw bl bt anchor w l t val del) → K r) : s16G J0 pUsr pWor pChk pTag (inAV key n m bw bl bt anchor w l t val del) H0 fun r _ => K r := by
  repeat' ((conv => whnf); first | exact hk _ (by simp_all [okI, bad_t, bad_f, eqI_bad, eqI_bad']) | refine ⟨_, _, _, rfl, ?_⟩ | refine ⟨_, _, rfl, ?_⟩ | refine rec_intro (fun _ => ?_) (fun _ => ?_))
theorem t17 {key : Str} {n m bw bl bt : Int} {anchor : Str} {w l t : Int} {val : Str} {del : Bool} (hk : ∀ r, r = bad (okI key n m bw bl bt anchor w l t val del) → K r) : s17G J0 pUsr pWor pChk pTag (inAV key n m bw bl bt anchor w l t val del) H0 fun r _ => K r := by
  repeat' ((conv => whnf); first | exact hk _ (by simp_all [okI, bad_t, bad_f, eqI_bad, eqI_bad']) | refine ⟨_, _, _, rfl, ?_⟩ | refine ⟨_, _, rfl, ?_⟩ | refine rec_intro (fun _ => ?_) (fun _ => ?_))
end
end Go.Proofs.Ytlbigopkplckaaa
