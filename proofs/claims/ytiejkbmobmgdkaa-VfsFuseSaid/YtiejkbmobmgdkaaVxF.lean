/- named, asked, raw. No condition. -/
import Derived.Test.YtiejkbmobmgdkaaVxE
namespace Go.Am
open Go
set_option linter.all false
def okByte (c : UInt8) : Bool := decide (33 ≤ c.toNat) && decide (c.toNat ≤ 126)
def named (s : List UInt8) : Bool := decide (s ≠ []) && decide (s.length ≤ 32) && s.all okByte
def Fs.asked (fs : Fs) (l : List (List UInt8)) : Int := if fs.off then 7 else if l.all named then 0 else 2
noncomputable def Fs.raw (fs : Fs) : Int × Fs :=
  if fs.fused && decide (fs.left = 0) then (7, { fs with off := true })
  else (0, { fs with left := if fs.fused then wrapF .i64 (Int.sub fs.left 1) else fs.left, steps := wrapF .i64 (Int.add fs.steps 1) })
/-- what a call leaves -/
structure Nxt (h : H) (g : FsG) (h' : H) (g' : FsG) : Prop where
  id : g'.id = g.id
  o : Only (Own g) h h'
  own : ∀ i, Own g' i → Own g i ∨ h.next ≤ i
theorem Nxt.refl (h : H) (g : FsG) : Nxt h g h g := ⟨rfl, Only.refl _ _, fun _ => .inl⟩
theorem Nxt.pure {h h' : H} (g : FsG) (o : Only noL h h') : Nxt h g h' g := ⟨rfl, o.imp fun _ _ c => c.elim, fun _ => .inl⟩
theorem Nxt.trans {h h1 h2 : H} {g g1 g2 : FsG} (a : Nxt h g h1 g1) (b : Nxt h1 g1 h2 g2) : Nxt h g h2 g2 :=
  ⟨b.id.trans a.id, a.o.trans b.o fun i hi c => (a.own i c).resolve_right (by omega), fun i c => (b.own i c).elim (a.own i) fun hi => .inr (Nat.le_trans a.o.next hi)⟩
/-- names that are handed in -/
def ArgS (h : H) (v : AV) (l : List (List UInt8)) : Prop := (l = [] ∧ v = .nils) ∨ ∃ id cap ex, v = .slice id 0 l.length cap 1 ex ∧ h.get id = .cells false 9 (l.map fun s => .str (Str.of s))
theorem Own.live {h : H} {g : FsG} {fs : Fs} (f : FsAt h g fs) {i : Nat} (o : Own g i) : i < h.next := by
  obtain ⟨w, e1, e2⟩ := f.obj
  rcases o with rfl | rfl | rfl | o
  · exact H.lt_of_live (by rw [e1]; rfl)
  · exact f.tree.lf
  · exact f.tree.ln
  · rcases e2 with ⟨_, _, h1⟩ | ⟨_, id, mv, cs, h1, h2, h3, h4, h5⟩
    · rw [h1] at o; cases o
    · rw [h1] at o; injection o with o; subst o; exact H.lt_of_live (by rw [h4]; rfl)
theorem FsAt.apart {h : H} {g : FsG} {fs : Fs} (f : FsAt h g fs) : g.id ≠ g.mf ∧ g.id ≠ g.mn ∧ g.wr ≠ some g.id := by
  obtain ⟨w, e1, e2⟩ := f.obj
  obtain ⟨es, e3, _⟩ := f.tree.files
  refine ⟨fun e => ?_, fun e => ?_, fun e => ?_⟩
  · rw [← e, e1] at e3; cases e3
  · have := f.tree.names; rw [← e, e1] at this; cases this
  · rcases e2 with ⟨_, _, h1⟩ | ⟨_, id, mv, cs, h1, h2, h3, h4, h5⟩
    · rw [h1] at e; cases e
    · rw [h1] at e; injection e with e; subst e; rw [e1] at h4; injection h4 with _ h4; cases h4
theorem FsAt.apart' {h : H} {g : FsG} {fs : Fs} (f : FsAt h g fs) {i : Nat} (e : g.wr = some i) : i ≠ g.mf ∧ i ≠ g.mn := by
  obtain ⟨w, e1, e2⟩ := f.obj
  obtain ⟨es, e3, _⟩ := f.tree.files
  rcases e2 with ⟨_, _, h1⟩ | ⟨_, id, mv, cs, h1, h2, h3, h4, h5⟩
  · rw [h1] at e; cases e
  · rw [h1] at e; injection e with e; subst e
    refine ⟨fun e => ?_, fun e => ?_⟩
    · rw [e, e3] at h4; cases h4
    · rw [e, f.tree.names] at h4; cases h4
/-- the object is written anew -/
theorem FsAt.put {h h' : H} {g : FsG} {fs fs' : Fs} (f : FsAt h g fs) (o : Only (· = g.id) h h') (ht : fs'.sure = fs.sure) (hw : fs'.wait = fs.wait) (e : ∀ w, h.get g.id = .cells false 60 (fs.cells g w) → h'.get g.id = .cells false 60 (fs'.cells g w)) : FsAt h' g fs' := by
  obtain ⟨w, e1, e2⟩ := f.obj
  have a := f.apart
  refine ⟨by rw [o.base]; exact f.bs, ⟨w, e w e1, by rw [hw]; exact e2.only o fun i e c => a.2.2 (by rw [e, c])⟩, by rw [ht]; exact f.tree.only o (fun c => a.1 c.symm) fun c => a.2.1 c.symm⟩
theorem Own.id {g : FsG} {i : Nat} (e : i = g.id) : Own g i := .inl e
end Go.Am
namespace Go.Proofs.Ytiejkbmobmgdkaa
open Go Go.Am
set_option linter.all false
set_option maxRecDepth 100000
theorem lt33 (c : UInt8) : ltI (bI c) (Int.ofNat 33) = !decide (33 ≤ c.toNat) := by
  rw [ltI_eq]
  unfold bI
  by_cases h : 33 ≤ c.toNat
  · rw [decide_eq_true h, decide_eq_false]; rfl; simp only [Int.ofNat_eq_natCast]; omega
  · rw [decide_eq_false h, decide_eq_true]; rfl; simp only [Int.ofNat_eq_natCast]; omega
theorem gt126 (c : UInt8) : ltI (Int.ofNat 126) (bI c) = !decide (c.toNat ≤ 126) := by
  rw [ltI_eq]
  unfold bI
  by_cases h : c.toNat ≤ 126
  · rw [decide_eq_true h, decide_eq_false]; rfl; simp only [Int.ofNat_eq_natCast]; omega
  · rw [decide_eq_false h, decide_eq_true]; rfl; simp only [Int.ofNat_eq_natCast]; omega
theorem p46 {s : List UInt8} {h : H} {k : Bool → H → Prop} (hk : k (named s) h) : s46 (Str.of s) h k := by
  show s46G J0 _ h k
  unfold s46G
  rw [of_nil, beq_lit, fB_eq]
  by_cases h0 : s = []
  · subst h0
    simp only [decide_true, br_t, jn_is, pickB_t, asB_bool]
    exact hk
  · simp only [decide_eq_false h0, br_f, jn_is, pickB_f, asB_bool, asS_str, asI_int, fB_eq]
    rw [of_len]
    refine br_intro (fun h1 => ?_) fun h1 => ?_
    · have h1 := ltI_nat.1 h1
      have : named s = false := by unfold named; rw [decide_eq_false (show ¬ s.length ≤ 32 by omega)]; simp
      rw [← this]; exact hk
    · have h1 := ltI_nat'.1 h1
      refine lp_rule (fun m v d h' => ∃ i, m = s.length - i ∧ i ≤ s.length ∧ v = (.str (Str.of s), .int .i64 (Int.ofNat s.length), .int .i64 (Int.ofNat i), ()) ∧ d = [] ∧ h' = h ∧ ∀ j (hj : j < s.length), j < i → okByte s[j] = true) (fun m self v d hc inv next => ?_) (n := s.length) (by show _ < 4611686018427387904; omega) ⟨0, rfl, Nat.zero_le _, rfl, rfl, rfl, fun j _ hj => absurd hj (Nat.not_lt_zero _)⟩
      obtain ⟨i, rfl, hi, rfl, rfl, rfl, hj⟩ := inv
      dsimp only
      rw [asI_int, asI_int]
      refine br_intro (fun h2 => ?_) fun h2 => ?_
      · have h2 := ltI_nat.1 h2
        simp only [ixs_of h2, lt33, gt126]
        have no : okByte s[i] = false → named s = false := fun q => by
          unfold named
          rw [show s.all okByte = false from by
            rw [List.all_eq_false]; exact ⟨s[i], List.getElem_mem h2, by rw [q]; simp⟩]
          simp
        by_cases h3 : 33 ≤ s[i].toNat
        · simp only [decide_eq_true h3, Bool.not_true, br_f, ixs_of h2]
          simp only [asI_int, fB_eq, gt126, pickB_f, asB_bool]
          by_cases h4 : s[i].toNat ≤ 126
          · simp only [decide_eq_true h4, Bool.not_true, br_f]
            rw [inc_nat (by omega), fI_eq]
            refine next (s.length - (i + 1)) _ _ _ (by omega) ⟨i + 1, rfl, h2, rfl, rfl, rfl, fun j hj1 hj2 => ?_⟩
            by_cases e : j = i
            · subst e; unfold okByte; rw [decide_eq_true h3, decide_eq_true h4]; rfl
            · exact hj j hj1 (by omega)
          · simp only [decide_eq_false h4, Bool.not_false, br_t]
            have := no (by unfold okByte; rw [decide_eq_false h4]; simp)
            show k false hc
            rw [← this]; exact hk
        · simp only [decide_eq_false h3, Bool.not_false, br_t, pickB_t, asB_bool]
          have := no (by unfold okByte; rw [decide_eq_false h3]; simp)
          show k false hc
          rw [← this]; exact hk
      · have h2 := ltI_nat'.1 h2
        have : named s = true := by
          unfold named
          rw [decide_eq_true h0, decide_eq_true h1, show s.all okByte = true from List.all_eq_true.2 fun c hc => ?_]
          · rfl
          · obtain ⟨j, hj1, rfl⟩ := List.mem_iff_getElem.1 hc
            exact hj j hj1 (by omega)
        show k true hc
        rw [← this]; exact hk
end Go.Proofs.Ytiejkbmobmgdkaa
