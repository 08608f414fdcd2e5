/- asked, raw, pend, file. No condition. -/
import Derived.Test.YtiejkbmobmgdkaaVxF
namespace Go.Am
open Go
set_option linter.all false
noncomputable def Fs.pend (fs : Fs) (s : Stp) : Int × Fs := if fs.raw.1 = 0 then (0, { fs.raw.2 with wait := fs.wait ++ [s] }) else fs.raw
theorem Fs.raw_sure (fs : Fs) : fs.raw.2.sure = fs.sure := by unfold Fs.raw; split <;> rfl
theorem Fs.raw_wait (fs : Fs) : fs.raw.2.wait = fs.wait := by unfold Fs.raw; split <;> rfl
def Fs.file (fs : Fs) (s : List UInt8) : Int × Int := if fs.asked [s] ≠ 0 then (0, fs.asked [s]) else match nget fs.held.names s with
  | none => (0, 4)
  | some x => (x, 0)
theorem lgetO_map {α : Type} (f : α → AV) {l : List α} {i : Nat} (h : i < l.length) : lgetO (l.map f) i = some (f l[i]) := by
  rw [lgetO_get (by simpa using h)]; simp
end Go.Am
namespace Go.Proofs.Ytiejkbmobmgdkaa
open Go Go.Am
set_option linter.all false
set_option maxRecDepth 100000
theorem p34 {h : H} {g : FsG} {fs : Fs} {v : AV} {l : List (List UInt8)} {k : Int → H → Prop} (f : FsAt h g fs) (a : ArgS h v l) (hl : l.length < 4611686018427387904) (hk : k (fs.asked l) h) : s34 (.ptr g.id 0) v h k := by
  obtain ⟨w, e1, e2⟩ := f.obj
  show s34G J0 s46 _ _ h k
  unfold s34G nilB
  rw [show Nat.beq (nilCode (.ptr g.id 0)) 0 = false from rfl, br_f, show Nat.beq (nilCode (.ptr g.id 0)) (Nat.succ 0) = true from rfl, ck_t]
  simp only [jn_is, br_f, okNil_ptr, faK_ptr]
  rw [ldB_at e1 rfl]
  simp only [asB_bool, fB_eq, Bool.not_true, pickB_f, br_f]
  rw [ldB_at e1 rfl]
  refine br_intro (fun h0 => ?_) fun h0 => ?_
  · have : fs.asked l = 7 := by unfold Fs.asked; rw [if_pos h0]
    rw [this] at hk; exact hk
  · have e0 : fs.asked l = if l.all named then 0 else 2 := by unfold Fs.asked; rw [h0]; simp
    rw [e0] at hk
    have hlen : ∀ K : Nat → Prop, lenK v K = K l.length := by
      rcases a with ⟨rfl, rfl⟩ | ⟨id, cap, ex, rfl, _⟩ <;> intro K <;> rfl
    rw [hlen]
    refine lp_rule (fun m u d h' => ∃ i, m = l.length - i ∧ i ≤ l.length ∧ u = (v, .int .i64 (Int.ofNat l.length), .int .i64 (Int.ofNat i), ()) ∧ d = [] ∧ h' = h ∧ ∀ j (hj : j < l.length), j < i → named l[j] = true) (fun m self u d hc inv next => ?_) (n := l.length) hl ⟨0, rfl, Nat.zero_le _, rfl, rfl, rfl, fun j _ hj => absurd hj (Nat.not_lt_zero _)⟩
    obtain ⟨i, rfl, hi, rfl, rfl, rfl, hj⟩ := inv
    dsimp only
    rw [asI_int, asI_int]
    refine br_intro (fun h2 => ?_) fun h2 => ?_
    · have h2 := ltI_nat.1 h2
      rcases a with ⟨rfl, rfl⟩ | ⟨id, cap, ex, rfl, ge⟩
      · simp at h2
      · rw [ixK1 h2, ldS_at ge (lgetO_map _ h2)]
        refine p46 ?_
        cases hn : named l[i] with
        | false =>
          rw [show l.all named = false from List.all_eq_false.2 ⟨l[i], List.getElem_mem h2, by rw [hn]; simp⟩] at hk
          exact hk
        | true =>
          simp only [Bool.not_true, br_f]
          rw [asI_int, inc_nat (by omega), fI_eq]
          refine next (l.length - (i + 1)) _ _ _ (by omega) ⟨i + 1, rfl, h2, rfl, rfl, rfl, fun j hj1 hj2 => ?_⟩
          by_cases e : j = i
          · subst e; exact hn
          · exact hj j hj1 (by omega)
    · have h2 := ltI_nat'.1 h2
      rw [show l.all named = true from List.all_eq_true.2 fun c hc => by
        obtain ⟨j, hj1, rfl⟩ := List.mem_iff_getElem.1 hc
        exact hj j hj1 (by omega)] at hk
      exact hk
theorem p49 {h : H} {g : FsG} {fs : Fs} {k : Int → H → Prop} (f : FsAt h g fs) (hk : ∀ h', FsAt h' g fs.raw.2 → Only (· = g.id) h h' → h'.next = h.next → k fs.raw.1 h') : s49 (.ptr g.id 0) h k := by
  obtain ⟨w, e1, e2⟩ := f.obj
  have same : ∀ u, h.get g.id = .cells false 60 (fs.cells g u) → u = w := fun u e => by
    rw [e1] at e; injection e with _ _ e; unfold Fs.cells at e; injection e with _ e; injection e with _ e; injection e with e _; exact e.symm
  show s49G J0 _ h k
  unfold s49G
  rw [okNil_ptr, faK_ptr, ldB_at e1 rfl]
  cases hf : fs.fused with
  | false =>
    simp only [jn_is, jd_is, br_f, pickB_f, asB_bool, okNil_ptr, faK_ptr]
    rw [ldB_at e1 rfl, hf, br_f, ldI_at e1 rfl, fI_eq]
    refine stV_r e1 rfl rfl f.bs fun h' o n g' => ?_
    have : fs.raw = (0, { fs with steps := wrapF .i64 (Int.add fs.steps 1) }) := by unfold Fs.raw; rw [hf]; rfl
    rw [this] at hk
    refine hk h' (f.put o rfl rfl fun u e => ?_) o n
    rw [same u e, g']; simp only [Fs.cells, hf]; rfl
  | true =>
    simp only [jn_is, jd_is, br_t, pickB_t, asB_bool, okNil_ptr, faK_ptr]
    rw [ldI_at e1 rfl, asI_int, fB_eq]
    refine br_intro (fun h0 => ?_) fun h0 => ?_
    · have h0 : fs.left = 0 := eqI_true.1 h0
      refine stV_r e1 rfl rfl f.bs fun h' o n g' => ?_
      have : fs.raw = (7, { fs with off := true }) := by unfold Fs.raw; rw [hf, decide_eq_true h0]; rfl
      rw [this] at hk
      refine hk h' (f.put o rfl rfl fun u e => ?_) o n
      rw [same u e, g']; rfl
    · have h0 : fs.left ≠ 0 := eqI_false.1 h0
      rw [ldB_at e1 rfl, hf, br_t, ldI_at e1 rfl, fI_eq]
      refine stV_r e1 rfl rfl f.bs fun h1 o1 n1 g1 => ?_
      rw [ldI_at g1 rfl, fI_eq]
      refine stV_r g1 rfl rfl (by rw [o1.base]; exact f.bs) fun h' o n g' => ?_
      have : fs.raw = (0, { fs with left := wrapF .i64 (Int.sub fs.left 1), steps := wrapF .i64 (Int.add fs.steps 1) }) := by
        unfold Fs.raw; rw [hf, decide_eq_false (by simpa using h0)]; rfl
      rw [this] at hk
      have o2 := o1.trans o fun _ _ => id
      refine hk h' (f.put o2 rfl rfl fun u e => ?_) o2 (n.trans n1)
      rw [same u e, g']; simp only [Fs.cells, hf]; rfl
theorem p36 {h : H} {g : FsG} {fs : Fs} {s : Stp} {u : AV} {k : Int → H → Prop} (f : FsAt h g fs) (hu : SlB h u s.bytes) (hl : (fs.wait.length + 1) * 72 ≤ mostRoom)
    (hk : ∀ h' g', FsAt h' g' (fs.pend s).2 → Nxt h g h' g' → k (fs.pend s).1 h') : s36 (.ptr g.id 0) (.agg (s.cells u)) h k := by
  show s36G J0 s49 _ _ h k
  unfold s36G
  rw [asAgg_agg]
  refine push_r fun h2 o2 n2 g2 => ?_
  refine p49 (f.only o2 fun _ _ => id) fun h4 f4 o4 n4 => ?_
  have o24 : Only (Own g) h h4 := (o2.imp fun _ _ c => c.elim).trans o4 fun _ _ c => .inl c
  rw [jd_is, fB_eq]
  refine br_intro (fun h0 => ?_) fun h0 => ?_
  · have h0 : fs.raw.1 = 0 := eqI_true.1 h0
    have ep : fs.pend s = (0, { fs.raw.2 with wait := fs.wait ++ [s] }) := by unfold Fs.pend; rw [if_pos h0]
    rw [ep] at hk
    obtain ⟨w, e1, e2⟩ := f4.obj
    rw [Fs.raw_wait] at e2
    have hid : h.next ≠ g.id := fun e => by have := Own.live f (.inl rfl : Own g g.id); omega
    rw [okNil_ptr, faK_ptr, ldV_at e1 rfl, ldN_at (o4.at g2 rfl fun e => hid e) (show _ = some (s.cells u) from rfl)]
    refine ck_intro rfl ?_
    rw [show lputAt 0 (s.cells u) [(.int .i64 0), (.str ⟨0, 0⟩), (.str ⟨0, 0⟩), (.int .i64 0), (.nils)] = some (s.cells u) from rfl, op'_some]
    refine push_r fun h17 o17 n17 g17 => ?_
    have f17 := f4.only o17 fun _ _ => id
    refine apC_wait (e2.only o17 fun _ _ => id) g17 ((hu.only o24).only o17) hl f17.wf fun v' h20 i w20 o20 hi => ?_
    have a := f17.apart
    have e20 := o20.at (o17.at e1 rfl id) rfl fun c => a.2.2 c
    rw [okNil_ptr, faK_ptr]
    refine stV_r e20 w20.one rfl (by rw [o20.base]; exact f17.bs) fun h22 o22 n22 g22 => ?_
    have o422 : Only (Own g) h4 h22 := ((o17.imp fun _ _ c => c.elim).trans o20 fun _ _ c => .inr (.inr (.inr c))).trans o22 fun _ _ c => .inl c
    have li : h4.next ≤ i := Nat.le_trans o17.next hi
    show k fs.raw.1 h22
    rw [h0]
    refine hk h22 ⟨g.id, g.mf, g.mn, some i⟩ ⟨by rw [o422.base]; exact f4.bs, ⟨v', ?_, ?_⟩, ?_⟩ ⟨rfl, o24.trans o422 fun _ _ => id, fun j c => ?_⟩
    · rw [g22]; rfl
    · refine w20.only o22 fun j e c => ?_
      injection e with e
      have := Own.live f4 (.inl rfl : Own g g.id); omega
    · rw [show ({ fs.raw.2 with wait := fs.wait ++ [s] } : Fs).sure = fs.raw.2.sure from rfl]
      refine ((f17.tree.only o20 (fun c => ?_) fun c => ?_).only o22 (fun c => a.1 c.symm) fun c => a.2.1 c.symm)
      · exact (f17.apart' c).1 rfl
      · exact (f17.apart' c).2 rfl
    · have hn := o24.next
      rcases c with c | c | c | c
      · exact .inl (.inl c)
      · exact .inl (.inr (.inl c))
      · exact .inl (.inr (.inr (.inl c)))
      · injection c with c; right; omega
  · have h0 : fs.raw.1 ≠ 0 := eqI_false.1 h0
    have ep : fs.pend s = fs.raw := by unfold Fs.pend; rw [if_neg h0]
    rw [ep] at hk
    show k fs.raw.1 h4
    exact hk h4 g f4 ⟨rfl, o24, fun _ => .inl⟩
theorem p39 {h : H} {g : FsG} {fs : Fs} {s : List UInt8} {k : Int → Int → H → Prop} (f : FsAt h g fs) (fit : fs.Fits mostRoom) (hk : ∀ h', FsAt h' g fs → Only noL h h' → k (fs.file s).1 (fs.file s).2 h') : s39 (.ptr g.id 0) (Str.of s) h k := by
  show s39G J0 s34 s35 _ _ h k
  unfold s39G
  refine push_r fun h2 o2 n2 g2 => ?_
  have f2 := f.only o2 fun _ _ => id
  refine p34 (l := [s]) f2 (.inr ⟨h.next, 1, true, rfl, g2⟩) (by show 1 < 4611686018427387904; omega) ?_
  rw [fB_eq]
  refine br_intro (fun h0 => ?_) fun h0 => ?_
  · have h0 : fs.asked [s] ≠ 0 := eqI_false.1 (Am.not_true.1 h0)
    have : fs.file s = (0, fs.asked [s]) := by unfold Fs.file; rw [if_pos h0]
    rw [this] at hk
    exact hk h2 f2 o2
  · have h0 : fs.asked [s] = 0 := eqI_true.1 (not_false'.1 h0)
    have : fs.file s = match nget fs.held.names s with | none => (0, 4) | some x => (x, 0) := by unfold Fs.file; rw [if_neg (by rw [h0]; simp)]
    rw [this] at hk
    refine p35 f2 fit fun h6 mf mn t6 hmf hmn o6 => ?_
    rw [asAgg_agg]
    show op' (some (AV.map mn)) _
    have o26 := o2.trans o6 fun _ _ => id
    rw [op'_some, lookN' vt t6, op'_some, asTup_tuple]
    show op' (some (AV.int .i64 (nfile fs.held.names s))) _
    rw [op'_some, asI_int, asTup_tuple]
    show op' (some (AV.bool (nget fs.held.names s).isSome)) _
    rw [op'_some, asB_bool, fB_eq]
    have := hk h6 (f.only o26 fun _ _ => id) o26
    unfold nfile
    cases hg : nget fs.held.names s with
    | none => rw [hg] at this; exact this
    | some x => rw [hg] at this; exact this
end Go.Proofs.Ytiejkbmobmgdkaa
