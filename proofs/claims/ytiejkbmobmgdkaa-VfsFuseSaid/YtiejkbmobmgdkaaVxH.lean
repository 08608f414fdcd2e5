/- settle: what is meant becomes durable. No condition. -/
import Derived.Test.YtiejkbmobmgdkaaVxG
namespace Go.Am
open Go
set_option linter.all false
noncomputable def Fs.settle (fs : Fs) (p : Stp → Bool) : Int × Fs :=
  if fs.raw.1 = 0 then (0, { fs.raw.2 with sure := fs.sure.steps (fs.wait.filter p), wait := fs.wait.filter fun s => !p s }) else fs.raw
theorem filter_take {p : Stp → Bool} {l : List Stp} {i : Nat} (h : i < l.length) : (l.take (i + 1)).filter p = (l.take i).filter p ++ (if p l[i] then [l[i]] else []) := by
  rw [List.take_succ_eq_append_getElem h, List.filter_append]
  congr 1
  simp only [List.filter_cons, List.filter_nil]
theorem wsum_filter (p : Stp → Bool) : ∀ l : List Stp, wsum (l.filter p) ≤ wsum l
  | [] => Nat.le_refl _
  | s :: l => by
    have := wsum_filter p l
    rw [List.filter_cons]
    split
    · rw [wsum_cons, wsum_cons]; omega
    · rw [wsum_cons]; omega
end Go.Am
namespace Go.Proofs.Ytiejkbmobmgdkaa
open Go Go.Am
set_option linter.all false
set_option maxRecDepth 100000
/-- a round of settle -/
structure R37 (h1 : H) (g : FsG) (fs : Fs) (p : Stp → Bool) (w mean : AV) (m : Nat) (v : AV × AV × AV × AV × AV × AV × Unit) (d : List Dfr) (h : H) (i : Nat) (r : AV) (wr : Option Nat) : Prop where
  m : m = fs.wait.length - i
  le : i ≤ fs.wait.length
  v : v = (.ptr g.id 0, mean, r, w, .int .i64 (Int.ofNat fs.wait.length), .int .i64 (Int.ofNat i), ())
  d : d = []
  o : Only (Two g.mf g.mn) h1 h
  t : TreeAt h g.mf g.mn (fs.sure.steps ((fs.wait.take i).filter p))
  wt : WaitAt h wr r ((fs.wait.take i).filter fun s => !p s)
  far : ∀ j, wr = some j → h1.next ≤ j
/-- what a function value that tells which steps are meant answers -/
def Meant (G : Gam) (mean : AV) (p : Stp → Bool) (g : FsG) (h : H) : Prop :=
  ∀ (s : Stp) (u : AV) (hc : H) (K : AV → H → Prop), Only (Own g) h hc → SlB hc u s.bytes → (∀ h', Only noL hc h' → K (.bool (p s)) h') → callK G mean [.agg (s.cells u)] hc K
theorem p37 {h : H} {g : FsG} {fs : Fs} {p : Stp → Bool} {mean : AV} {k : Int → H → Prop} (f : FsAt h g fs) (fit : fs.Fits mostRoom) (hm : Meant (gam J0 [(38, w38 s38), (40, w40 s40), (43, w43 s43), (49, w49 s49)]) mean p g h)
    (hk : ∀ h' g', FsAt h' g' (fs.settle p).2 → Nxt h g h' g' → k (fs.settle p).1 h') : s37 (.ptr g.id 0) mean h k := by
  obtain ⟨n, hbn, hfit⟩ := fit
  have hlen : fs.wait.length * 72 ≤ mostRoom := by have := wsum_len fs.wait; omega
  have hmost : mostRoom = 140737488355328 := rfl
  show s37G J0 s38 s40 s43 s49 _ _ h k
  unfold s37G
  refine p49 f fun h1 f1 o1 n1 => ?_
  rw [fB_eq]
  refine br_intro (fun h0 => ?_) fun h0 => ?_
  · have h0 : fs.raw.1 ≠ 0 := eqI_false.1 (Am.not_true.1 h0)
    have : fs.settle p = fs.raw := by unfold Fs.settle; rw [if_neg h0]
    rw [this] at hk
    exact hk h1 g f1 ⟨rfl, o1.imp fun _ _ c => .inl c, fun _ => .inl⟩
  · have h0 : fs.raw.1 = 0 := eqI_true.1 (not_false'.1 h0)
    have ep : fs.settle p = (0, { fs.raw.2 with sure := fs.sure.steps (fs.wait.filter p), wait := fs.wait.filter fun s => !p s }) := by unfold Fs.settle; rw [if_pos h0]
    rw [ep] at hk
    obtain ⟨w, e1, e2⟩ := f1.obj
    have q1 := f1.tree
    rw [Fs.raw_wait] at e2
    rw [Fs.raw_sure] at q1
    have a := f1.apart
    have la : Own g g.id := .inl rfl
    have lid := Own.live f1 la
    have oh1 : Only (Own g) h h1 := o1.imp fun _ _ c => .inl c
    have two : ∀ j, Two g.mf g.mn j → Own g j := by rintro j (c | c); exact .inr (.inl c); exact .inr (.inr (.inl c))
    have tid : ¬ Two g.mf g.mn g.id := by rintro (c | c); exact a.1 c; exact a.2.1 c
    have twr : ∀ j, g.wr = some j → ¬ Two g.mf g.mn j := by rintro j e (c | c); exact (f1.apart' e).1 c; exact (f1.apart' e).2 c
    rw [okNil_ptr, faK_ptr, ldV_at e1 rfl]
    show lenK w _
    rw [e2.len]
    refine lp_rule (fun m v d h' => ∃ i r wr, R37 h1 g fs p w mean m v d h' i r wr) (fun m self v d hc inv next => ?_) (n := fs.wait.length) (by show _ < 4611686018427387904; omega) ⟨0, .nils, none, rfl, Nat.zero_le _, rfl, rfl, Only.refl _ _, q1, .inl ⟨rfl, rfl, rfl⟩, fun j c => by cases c⟩
    obtain ⟨i, r, wr, hm', hle, rfl, rfl, ho, ht, hw, hfar⟩ := inv
    have hwf : hc.base ≤ hc.next := ht.wf
    have hnx := ho.next
    dsimp only
    rw [asI_int, asI_int, fB_eq]
    refine br_intro (fun h2 => ?_) fun h2 => ?_
    · have hi := ltI_nat.1 h2
      rw [jd_is]
      refine WaitAt.read (e2.only ho twr) hi fun pp u hu => ?_
      refine push_r fun h23 o23 n23 g23 => ?_
      refine stN_r g23 rfl (Stp.ones _ hu.one) rfl (by rw [o23.base]; exact hwf) fun h24 o24 n24 g24 => ?_
      have oc24 : Only noL hc h24 := o23.trans o24 fun j hj e => by omega
      rw [ldN_at g24 (show _ = some (fs.wait[i].cells u) from rfl)]
      have oh24 : Only (Own g) h h24 := (oh1.trans ho fun j _ c => two j c).trans oc24 fun _ _ c => c.elim
      refine hm fs.wait[i] u h24 _ oh24 (hu.only oc24) fun h27 o27 => ?_
      have oc27 : Only noL hc h27 := oc24.trans o27 fun _ _ c => c
      have g27 := o27.at g24 rfl id
      have u27 := hu.only oc27
      have t27 := ht.only oc27 id id
      have w27 := hw.only oc27 fun _ _ c => c
      rw [asB_bool]
      have hwi := wsum_take hi
      cases hp : p fs.wait[i] with
      | true =>
        have e1' := ((ho.at e1 rfl tid : hc.get g.id = _))
        have e27 := oc27.at e1' rfl id
        rw [br_t, okNil_ptr, faK_ptr]
        rw [ldN_at e27 (show _ = some [.map g.mf, .map g.mn] from rfl), ldN_at g27 (show _ = some (fs.wait[i].cells u) from rfl)]
        have hb2 := hbn.steps (t := fs.sure) (l := (fs.wait.take i).filter p)
        have := wsum_filter p (fs.wait.take i)
        refine p43 t27 u27 hb2 (by omega) fun h32 t32 o32 => ?_
        have oc32 : Only (Two g.mf g.mn) hc h32 := (oc27.imp fun _ _ c => c.elim).trans o32 fun _ _ c => c
        dsimp only
        rw [asI_int, inc_nat (by omega), fI_eq]
        have lf := q1.lf
        have ln := q1.ln
        refine next (fs.wait.length - (i + 1)) _ _ _ (by omega) ⟨i + 1, r, wr, rfl, hi, rfl, rfl, ho.trans oc32 fun _ _ c => c, ?_, ?_, hfar⟩
        · rw [filter_take hi, hp, if_pos rfl, steps_snoc]; exact t32
        · rw [filter_take hi, hp, if_neg (by simp), List.append_nil]
          refine w27.only o32 fun j e c => ?_
          have := hfar j e
          rcases c with c | c <;> omega
      | false =>
        rw [br_f, ldN_at g27 (show _ = some (fs.wait[i].cells u) from rfl)]
        refine ck_intro rfl ?_
        rw [show lputAt 0 (fs.wait[i].cells u) [(.int .i64 0), (.str ⟨0, 0⟩), (.str ⟨0, 0⟩), (.int .i64 0), (.nils)] = some (fs.wait[i].cells u) from rfl, op'_some]
        refine push_r fun h35 o35 n35 g35 => ?_
        have oc35 : Only noL hc h35 := oc27.trans o35 fun _ _ c => c
        have hll := List.length_filter_le (fun s => !p s) (fs.wait.take i)
        rw [List.length_take] at hll
        refine apC_wait (hw.only oc35 fun _ _ c => c) g35 (u27.only o35) (by omega) (by rw [oc35.base]; have := oc35.next; omega) fun v' h38 j w38 o38 hj => ?_
        have oc38 : Only (fun i => wr = some i) hc h38 := (oc35.imp fun _ _ c => c.elim).trans o38 fun _ _ c => c
        have hn35 := oc35.next
        dsimp only
        rw [asI_int, inc_nat (by omega), fI_eq]
        have lf := q1.lf
        have ln := q1.ln
        refine next (fs.wait.length - (i + 1)) _ _ _ (by omega) ⟨i + 1, v', some j, rfl, hi, rfl, rfl, ho.trans oc38 fun l hl c => ?_, ?_, ?_, fun l e => ?_⟩
        · have := hfar l c; omega
        · rw [filter_take hi, hp, if_neg (by simp), List.append_nil]
          refine ht.only oc38 (fun c => ?_) fun c => ?_
          · have := hfar _ c; omega
          · have := hfar _ c; omega
        · rw [filter_take hi, hp, if_pos (by simp)]; exact w38
        · injection e with e; omega
    · have hi := ltI_nat'.1 h2
      have : i = fs.wait.length := by omega
      subst this
      rw [List.take_length] at ht hw
      have e1' := ((ho.at e1 rfl tid : hc.get g.id = _))
      rw [okNil_ptr, faK_ptr]
      refine stV_r e1' hw.one rfl (by rw [ho.base]; exact f1.bs) fun h40 o40 n40 g40 => ?_
      show k 0 h40
      refine hk h40 ⟨g.id, g.mf, g.mn, wr⟩ ⟨by rw [o40.base, ho.base]; exact f1.bs, ⟨r, ?_, ?_⟩, ?_⟩ ⟨rfl, (oh1.trans ho fun j _ c => two j c).trans o40 fun _ _ c => .inl c, fun j c => ?_⟩
      · rw [g40]; rfl
      · refine hw.only o40 fun j e c => ?_
        have := hfar j e; omega
      · exact ht.only o40 (fun c => a.1 c.symm) fun c => a.2.1 c.symm
      · rcases c with c | c | c | c
        · exact .inl (.inl c)
        · exact .inl (.inr (.inl c))
        · exact .inl (.inr (.inr (.inl c)))
        · right; have := hfar j c; have := oh1.next; omega
end Go.Proofs.Ytiejkbmobmgdkaa
