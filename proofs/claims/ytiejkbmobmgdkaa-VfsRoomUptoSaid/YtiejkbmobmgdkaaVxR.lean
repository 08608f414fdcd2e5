/- New, Pending, and the laws' own helpers: CopyBytes, SameBytes, Pick, lives. No condition. -/
import Derived.Test.YtiejkbmobmgdkaaPxC
namespace Go.Am
open Go
set_option linter.all false
def Fs.new (room : Int) : Fs := ⟨⟨[], []⟩, [], room, 0, false, false, 0, 0⟩
theorem Fs.new_inv (room : Int) : Inv (Fs.new room) 0 0 :=
  ⟨⟨0, fun p hp => (by cases hp), Nat.le_refl _⟩, fun j => by
    have : nsteps (Fs.new room).sure.names ((Fs.new room).wait.take j) = [] := by unfold Fs.new; simp [nsteps]
    rw [this]; exact GoodN.nil _ _, fun s hs => (by cases hs), ⟨Int.le_refl _, Int.le_refl _⟩, ⟨Int.le_refl _, Int.le_refl _⟩, fun h => (by cases h)⟩
/-- a byte is read -/
theorem SlB.at {h : H} {v : AV} {b : List UInt8} (s : SlB h v b) {i : Nat} (hi : i < b.length) {kk : IntKind} (k : Int → Prop) : ixK 1 v (.int kk (Int.ofNat i)) (fun p => ldI .u8 p h k) ↔ k (bI b[i]) := by
  rcases s with ⟨rfl, rfl⟩ | ⟨id, off, cap, ex, t, f, sg, l, rfl, e2, e3, e4, e5⟩
  · simp at hi
  · unfold ixK
    rw [asSl_slice, asNat_int, (blt_iff _ _).2 hi, ck_t, fN_eq]
    have e : Nat.add off (Nat.mul i 1) = off + i := by show off + i * 1 = _; omega
    rw [e]
    show (asRow' (h.get id) _ _) ↔ _
    rw [e2, asRow_bytes]
    show ck (Nat.blt (off + i) l.length) _ ↔ _
    rw [(blt_iff _ _).2 (by omega), ck_t, fN_eq]
    show asI .u8 (.int .u8 (Int.ofNat ((Str.of l).get (off + i)))) k ↔ _
    rw [asI_int, Str.get_of _ _ (by omega)]
    have : b[i] = l[off + i]'(by omega) := by
      have h1 : b[i]? = some b[i] := List.getElem?_eq_getElem hi
      have h2 : ((l.take (off + b.length)).drop off)[i]? = some (l[off + i]'(by omega)) := by
        rw [List.getElem?_drop, List.getElem?_take_of_lt (by omega), List.getElem?_eq_getElem (by omega)]
      rw [e4, h1] at h2
      injection h2
    rw [this]; rfl
theorem eqI_bI (a b : UInt8) : eqI (bI a) (bI b) = decide (a = b) := by
  rw [eqI_dec]
  have : bI a = bI b ↔ a = b := ⟨fun h => by
    unfold bI at h
    injection h with h
    exact UInt8.toNat_inj.1 h, fun h => by rw [h]⟩
  simp only [this]
end Go.Am
namespace Go.Proofs.Ytiejkbmobmgdkaa
open Go Go.Am
set_option linter.all false
set_option maxRecDepth 100000
theorem p10 {h : H} {room : Int} {k : AV → Int → H → Prop} (hb : h.base ≤ h.next) (h0 : 0 ≤ room) (h1 : room ≤ 1073741824) (hk : ∀ h', FsAt h' ⟨h.next + 2, h.next, h.next + 1, none⟩ (Fs.new room) → Only noL h h' → k (.ptr (h.next + 2) 0) 0 h') : s10 room h k := by
  show s10G J0 _ h k
  unfold s10G
  rw [show ltI room (Int.ofNat 0) = false from ltI_false.2 h0, fB_eq]
  simp only [jn_is, br_f, asI_int, fB_eq, pickB_f]
  rw [show ltI (Int.ofNat 1073741824) room = false from ltI_false.2 h1]
  simp only [asB_bool, br_f, pickB_f]
  refine push_r fun h12 o12 n12 g12 => push_r fun h14 o14 n14 g14 => ?_
  refine ck_intro rfl ?_
  rw [show lputAt 0 [(AV.map h.next), (AV.map h12.next)] [(.nilm), (.nilm), (.nils), (.int .i64 0), (.int .i64 0), (.bool false), (.bool false), (.int .i64 0), (.int .i64 0), (.bool false)] = some [(.map h.next), (.map h12.next), (.nils), (.int .i64 0), (.int .i64 0), (.bool false), (.bool false), (.int .i64 0), (.int .i64 0), (.bool false)] from rfl, op'_some]
  rw [show lputAt 3 [(AV.int .i64 room)] [(.map h.next), (.map h12.next), (.nils), (.int .i64 0), (.int .i64 0), (.bool false), (.bool false), (.int .i64 0), (.int .i64 0), (.bool false)] = some [(.map h.next), (.map h12.next), (.nils), (.int .i64 room), (.int .i64 0), (.bool false), (.bool false), (.int .i64 0), (.int .i64 0), (.bool false)] from rfl, op'_some]
  rw [show lputAt 9 [(AV.bool true)] [(.map h.next), (.map h12.next), (.nils), (.int .i64 room), (.int .i64 0), (.bool false), (.bool false), (.int .i64 0), (.int .i64 0), (.bool false)] = some [(.map h.next), (.map h12.next), (.nils), (.int .i64 room), (.int .i64 0), (.bool false), (.bool false), (.int .i64 0), (.int .i64 0), (.bool true)] from rfl, op'_some]
  refine push_r fun h19 o19 n19 g19 => ?_
  have e12 : h12.next = h.next + 1 := n12
  have e14 : h14.next = h.next + 2 := by omega
  rw [e14] at g19 ⊢
  have o : Only noL h h19 := (o12.trans o14 fun _ _ => id).trans o19 fun _ _ => id
  have gf : h19.get h.next = .smap [] := o19.at (o14.at g12 rfl id) rfl id
  have gn : h19.get (h.next + 1) = .smap [] := by rw [← e12]; exact o19.at g14 rfl id
  refine hk h19 ⟨by rw [o.base]; show h.base ≤ h.next + 2; omega, ⟨.nils, ?_, .inl ⟨rfl, rfl, rfl⟩⟩, ?_⟩ o
  · rw [g19, e12]; rfl
  · exact ⟨by rw [o.base]; exact hb, by rw [o.base]; show h.base ≤ h.next + 1; omega, by show h.next ≠ h.next + 1; omega, ⟨[], gf, .nil⟩, gn⟩
theorem p15 {h : H} {v : AV} {b : List UInt8} {k : AV → H → Prop} (s : SlB h v b) (hb : h.base ≤ h.next) (hl : b.length ≤ mostRoom) (hk : ∀ v' h', SlB h' v' b → Row false 5 h.next h' v' b → Only noL h h' → k v' h') : s15 v h k := by
  show s15G J0 v h k
  unfold s15G
  rw [show asRow true 5 [] = some (.bytes 5 0 false (Str.of [])) from rfl, op'_some, pushK_is]
  refine apB_row (Row.push (g := false) (n := h.next) (l := []) false true (Nat.le_refl _)) hb (by rw [pushed_next]; omega) ?_ (by simpa using hl) fun v' h' r lo => ?_
  · refine fun f => SlB.src (s.only (L := noL) (Low.only ?_)) 5 f
    exact Low.push _ _ _ (Nat.le_refl _)
  · rw [List.nil_append] at r
    exact hk _ _ (SlB.ofRow r) r (Low.only ((Low.push _ _ _ (Nat.le_refl _)).trans lo))
theorem p21 {h : H} {v w : AV} {a b : List UInt8} {k : Bool → H → Prop} (s : SlB h v a) (t : SlB h w b) (hl : a.length < 4611686018427387904) (hk : k (decide (a = b)) h) : s21 v w h k := by
  show s21G J0 v w h k
  unfold s21G
  rw [s.len, t.len, fB_eq, eqI_dec]
  by_cases hab : a.length = b.length
  · rw [show decide (Int.ofNat a.length = Int.ofNat b.length) = true from decide_eq_true (by rw [hab])]
    show br false _ _
    rw [br_f]
    refine lp_rule (fun m u d h' => ∃ i, m = a.length - i ∧ i ≤ a.length ∧ u = (v, w, .int .i64 (Int.ofNat i), ()) ∧ d = [] ∧ h' = h ∧ a.take i = b.take i) (fun m self u d hc inv next => ?_) (n := a.length) hl ⟨0, rfl, Nat.zero_le _, rfl, rfl, rfl, by simp⟩
    obtain ⟨i, rfl, hi, rfl, rfl, rfl, hj⟩ := inv
    dsimp only
    rw [s.len, asI_int, fB_eq]
    refine br_intro (fun h2 => ?_) fun h2 => ?_
    · have h2 := ltI_nat.1 h2
      refine (s.at h2 _).2 ((t.at (by omega) _).2 ?_)
      rw [fB_eq, eqI_bI]
      by_cases he : a[i] = b[i]'(by omega)
      · rw [decide_eq_true he]
        show br false _ _
        rw [br_f, asI_int, inc_nat (by omega), fI_eq]
        refine next (a.length - (i + 1)) _ _ _ (by omega) ⟨i + 1, rfl, h2, rfl, rfl, rfl, ?_⟩
        rw [List.take_succ_eq_append_getElem h2, List.take_succ_eq_append_getElem (by omega), hj, he]
      · rw [decide_eq_false he]
        show k false hc
        rw [show decide (a = b) = false from decide_eq_false fun e => he (by subst e; rfl)] at hk
        exact hk
    · have h2 := ltI_nat'.1 h2
      have : i = a.length := by omega
      subst this
      rw [List.take_length, List.take_of_length_le (by omega)] at hj
      show k true hc
      rw [show decide (a = b) = true from decide_eq_true hj] at hk
      exact hk
  · rw [show decide (Int.ofNat a.length = Int.ofNat b.length) = false from decide_eq_false fun e => hab (Int.ofNat.inj e)]
    show k false h
    rw [show decide (a = b) = false from decide_eq_false fun e => hab (by rw [e])] at hk
    exact hk
theorem lives_run : (AV.bool true = AV.bool true) = g9 [] H0 isT := by kernel_rfl
noncomputable def pLives : H → (Bool → H → Prop) → Prop := fun h k => k true h
theorem q9_ok : FunOk Try.prog 9 (w9 pLives) :=
  (g9_ok.up (g' := fun xs h k => g9 xs h isT ∧ ∀ h', k (.bool true) h') fun xs h k ⟨h1, h2⟩ => ⟨isT, h1, fun r h' hr => by cases hr; exact h2 h'⟩).alone.imp fun xs h k e0 => by
    obtain ⟨rfl, e1⟩ := noArg_imp e0
    exact ⟨H0, .empty h, .empty, by simp [AV.underL], of_run lives_run, fun h' => ⟨by simp [AV.under], e1⟩⟩
end Go.Proofs.Ytiejkbmobmgdkaa
