/- The model of a file system: trees, steps; a tree in a heap. No condition. -/
import Derived.Test.YtiejkbmobmgdkaaVxB
namespace Go.Am
open Go
set_option linter.all false
structure Tre where
  files : List (Int × List UInt8)
  names : List (List UInt8 × Int)
def fbytes (l : List (Int × List UInt8)) (x : Int) : List UInt8 := (fget l x).getD []
def nfile (l : List (List UInt8 × Int)) (s : List UInt8) : Int := (nget l s).getD 0
def Tre.step (t : Tre) (s : Stp) : Tre :=
  if s.kind = 0 then ⟨fput t.files s.file (fbytes t.files s.file ++ s.bytes), t.names⟩
  else if s.kind = 1 then ⟨t.files, nput t.names s.name s.file⟩
  else if s.kind = 2 then if s.name = s.to then t else ⟨t.files, ndel (nput t.names s.to (nfile t.names s.name)) s.name⟩
  else if s.kind = 3 then ⟨t.files, ndel t.names s.name⟩
  else t
def Tre.steps (t : Tre) (l : List Stp) : Tre := l.foldl Tre.step t
/-- no file is longer than n -/
def Bnd (n : Nat) (t : Tre) : Prop := ∀ p ∈ t.files, p.2.length ≤ n
theorem Bnd.mono {n m : Nat} {t : Tre} (h : Bnd n t) (hm : n ≤ m) : Bnd m t := fun p hp => Nat.le_trans (h p hp) hm
theorem fget_mem : ∀ {l : List (Int × List UInt8)} {x : Int} {b : List UInt8}, fget l x = some b → ∃ p ∈ l, p.2 = b
  | p :: l, x, b, h => by
    unfold fget at h
    split at h
    · injection h with h; exact ⟨p, List.mem_cons_self, h⟩
    · obtain ⟨q, hq, e⟩ := fget_mem h; exact ⟨q, List.mem_cons_of_mem _ hq, e⟩
theorem Bnd.get {n : Nat} {t : Tre} (h : Bnd n t) (x : Int) : (fbytes t.files x).length ≤ n := by
  unfold fbytes
  cases e : fget t.files x with
  | none => simp
  | some b => obtain ⟨p, hp, rfl⟩ := fget_mem e; exact h p hp
theorem frepl_mem : ∀ {l : List (Int × List UInt8)} {x : Int} {b : List UInt8} {q : Int × List UInt8}, q ∈ frepl l x b → q = (x, b) ∨ q ∈ l
  | [], x, b, q, h => by simp [frepl] at h
  | p :: l, x, b, q, h => by
    unfold frepl at h
    split at h
    · rcases List.mem_cons.1 h with h | h
      · exact .inl h
      · exact (frepl_mem h).imp id (List.mem_cons_of_mem _)
    · rcases List.mem_cons.1 h with h | h
      · exact .inr (h ▸ List.mem_cons_self)
      · exact (frepl_mem h).imp id (List.mem_cons_of_mem _)
theorem fins_mem : ∀ {l : List (Int × List UInt8)} {x : Int} {b : List UInt8} {q : Int × List UInt8}, q ∈ fins l x b → q = (x, b) ∨ q ∈ l
  | [], x, b, q, h => by simp [fins] at h; exact .inl h
  | p :: l, x, b, q, h => by
    unfold fins at h
    split at h
    · rcases List.mem_cons.1 h with h | h
      · exact .inl h
      · exact .inr h
    · rcases List.mem_cons.1 h with h | h
      · exact .inr (h ▸ List.mem_cons_self)
      · exact (fins_mem h).imp id (List.mem_cons_of_mem _)
theorem fput_mem {l : List (Int × List UInt8)} {x : Int} {b : List UInt8} {q : Int × List UInt8} (h : q ∈ fput l x b) : q = (x, b) ∨ q ∈ l := by
  unfold fput at h
  split at h
  · exact frepl_mem h
  · exact fins_mem h
theorem Bnd.step {n : Nat} {t : Tre} (h : Bnd n t) (s : Stp) : Bnd (n + s.bytes.length) (t.step s) := by
  unfold Tre.step
  split
  · intro p hp
    rcases fput_mem hp with rfl | hp
    · have := h.get s.file; rw [List.length_append]; omega
    · have := h p hp; omega
  split
  · exact h.mono (Nat.le_add_right _ _)
  split
  · split <;> exact h.mono (Nat.le_add_right _ _)
  split <;> exact h.mono (Nat.le_add_right _ _)
/-- what is pending, in bytes -/
def wsum (l : List Stp) : Nat := (l.map fun s => s.bytes.length + 72).sum
theorem wsum_cons (s : Stp) (l : List Stp) : wsum (s :: l) = s.bytes.length + 72 + wsum l := by simp [wsum]
theorem wsum_append (l m : List Stp) : wsum (l ++ m) = wsum l + wsum m := by simp [wsum]
theorem wsum_len : ∀ l : List Stp, l.length * 72 ≤ wsum l
  | [] => by simp [wsum]
  | s :: l => by have := wsum_len l; rw [wsum_cons, List.length_cons]; omega
theorem Bnd.steps {t : Tre} : ∀ {l : List Stp} {n : Nat} {t : Tre}, Bnd n t → Bnd (n + wsum l) (t.steps l)
  | [], n, t, h => h.mono (Nat.le_add_right _ _)
  | s :: l, n, t, h => by
    have := Bnd.steps (t := t) (l := l) (h.step s)
    exact this.mono (by rw [wsum_cons]; omega)
/-! ## a tree in a heap -/
structure TreeAt (h : H) (mf mn : Nat) (t : Tre) : Prop where
  bf : h.base ≤ mf
  bn : h.base ≤ mn
  ne : mf ≠ mn
  files : ∃ es, h.get mf = .smap es ∧ All2 (FileE h) es t.files
  names : h.get mn = .smap (t.names.map nameE)
def Two (a b : Nat) : Nat → Prop := fun i => i = a ∨ i = b
theorem All2.only {L : Nat → Prop} {h h' : H} {es : List (AV × AV)} {fl : List (Int × List UInt8)} (a : All2 (FileE h) es fl) (o : Only L h h') : All2 (FileE h') es fl := a.imp fun _ _ _ q => ⟨q.1, q.2.only o⟩
theorem TreeAt.only {L : Nat → Prop} {h h' : H} {mf mn : Nat} {t : Tre} (q : TreeAt h mf mn t) (o : Only L h h') (h1 : ¬ L mf) (h2 : ¬ L mn) : TreeAt h' mf mn t := by
  obtain ⟨es, e1, e2⟩ := q.files
  exact ⟨by rw [o.base]; exact q.bf, by rw [o.base]; exact q.bn, q.ne, ⟨es, o.at e1 rfl h1, e2.only o⟩, o.at q.names rfl h2⟩
theorem TreeAt.lf {h : H} {mf mn : Nat} {t : Tre} (q : TreeAt h mf mn t) : mf < h.next := by
  obtain ⟨es, e1, e2⟩ := q.files
  exact H.lt_of_live (by rw [e1]; rfl)
theorem TreeAt.ln {h : H} {mf mn : Nat} {t : Tre} (q : TreeAt h mf mn t) : mn < h.next := H.lt_of_live (by rw [q.names]; rfl)
theorem TreeAt.wf {h : H} {mf mn : Nat} {t : Tre} (q : TreeAt h mf mn t) : h.base ≤ h.next := by have := q.lf; have := q.bf; omega
/-- the types of the maps -/
structure VT (T : Ty) : Prop where
  k3 : (T 3).kd = .int .i64
  k9 : (T 9).kd = .str
  k31 : (T 31).kd.known = true
  z31 : aZero T 31 = some .nils
  z3 : aZero T 3 = some (.int .i64 (Int.ofNat 0))
theorem lookF {T : Ty} (vt : VT T) {h : H} {mf mn : Nat} {t : Tre} (q : TreeAt h mf mn t) (x : Int) : ∃ v, aLookup T 3 31 false (.map mf) (.int .i64 x) h = some v ∧ SlB h v (fbytes t.files x) := by
  obtain ⟨es, e1, e2⟩ := q.files
  unfold aLookup
  simp only [e1]
  unfold aLookC
  simp only [vt.k3, vt.k31, Kd.scalar, Bool.and_true]
  rcases findF e2 x with ⟨f1, f2⟩ | ⟨b, v, f1, f2, f3⟩
  · simp only [f2, vt.z31]
    exact ⟨_, rfl, by unfold fbytes; rw [f1]; exact SlB.nil h⟩
  · simp only [f3]
    exact ⟨_, rfl, by unfold fbytes; rw [f1]; exact f2⟩
theorem putF {T : Ty} (vt : VT T) {h : H} {mf mn : Nat} {t : Tre} (q : TreeAt h mf mn t) (x : Int) {v : AV} {b : List UInt8} (hv : SlB h v b) :
    ∃ es, mapBlk T 3 (.map mf) (.int .i64 x) v h = some (mf, .smap es) ∧ All2 (FileE h) es (fput t.files x b) := by
  obtain ⟨es, e1, e2⟩ := q.files
  unfold mapBlk fput
  simp only [e1, vt.k3, Kd.scalar]
  rcases findF e2 x with ⟨f1, f2⟩ | ⟨b', v', f1, f2, f3⟩
  · simp only [f2]
    refine ⟨_, rfl, ?_⟩
    rw [f1]
    exact insF e2 hv
  · simp only [f3]
    refine ⟨_, rfl, ?_⟩
    rw [f1]
    exact replF e2 hv
theorem known_i64 : (Kd.int .i64).known = true := rfl
theorem lookN {T : Ty} (vt : VT T) {h : H} {mf mn : Nat} {t : Tre} (q : TreeAt h mf mn t) (s : List UInt8) : aLookup T 9 3 false (.map mn) (.str (Str.of s)) h = some (.int .i64 (nfile t.names s)) := by
  unfold aLookup
  simp only [q.names]
  unfold aLookC nfile
  simp only [vt.k9, vt.k3, known_i64, Kd.scalar, Bool.and_true, findN]
  cases nget t.names s with
  | none => simp only [Option.map_none, vt.z3]; rfl
  | some x => simp only [Option.map_some]; rfl
theorem lookN' {T : Ty} (vt : VT T) {h : H} {mf mn : Nat} {t : Tre} (q : TreeAt h mf mn t) (s : List UInt8) : aLookup T 9 3 true (.map mn) (.str (Str.of s)) h = some (.tuple [.int .i64 (nfile t.names s), .bool (nget t.names s).isSome]) := by
  unfold aLookup
  simp only [q.names]
  unfold aLookC nfile
  simp only [vt.k9, vt.k3, known_i64, Kd.scalar, Bool.and_true, findN]
  cases nget t.names s with
  | none => simp only [Option.map_none, vt.z3]; rfl
  | some x => simp only [Option.map_some]; rfl
theorem putN {T : Ty} (vt : VT T) {h : H} {mf mn : Nat} {t : Tre} (q : TreeAt h mf mn t) (s : List UInt8) (x : Int) :
    mapBlk T 9 (.map mn) (.str (Str.of s)) (.int .i64 x) h = some (mn, .smap ((nput t.names s x).map nameE)) := by
  unfold mapBlk nput
  simp only [q.names, vt.k9, Kd.scalar, findN]
  cases nget t.names s with
  | none => simp only [Option.map_none, insN]; rfl
  | some y => simp only [Option.map_some, replN]; rfl
theorem ndel_none : ∀ {l : List (List UInt8 × Int)} {s : List UInt8}, nget l s = none → ndel l s = l
  | [], _, _ => rfl
  | p :: l, s, h => by
    unfold nget at h
    unfold ndel
    split at h
    · cases h
    · rw [if_neg (by assumption), ndel_none h]
theorem delNm {T : Ty} (vt : VT T) {h : H} {mf mn : Nat} {t : Tre} (q : TreeAt h mf mn t) (s : List UInt8) :
    mapBlkD T 9 (.map mn) (.str (Str.of s)) h = some (some (mn, .smap ((ndel t.names s).map nameE))) := by
  unfold mapBlkD
  simp only [q.names, vt.k9, Kd.scalar, findN]
  cases e : nget t.names s with
  | none => simp only [Option.map_none]; rw [ndel_none e]
  | some y => simp only [Option.map_some, delN]
/-- the files are written anew -/
theorem TreeAt.putF {h h' : H} {mf mn : Nat} {t : Tre} {es : List (AV × AV)} {fl : List (Int × List UInt8)} (q : TreeAt h mf mn t) (o : Only (· = mf) h h') (g : h'.get mf = .smap es) (a : All2 (FileE h) es fl) : TreeAt h' mf mn ⟨fl, t.names⟩ :=
  ⟨by rw [o.base]; exact q.bf, by rw [o.base]; exact q.bn, q.ne, ⟨es, g, a.only o⟩, o.at q.names rfl fun e => q.ne e.symm⟩
theorem TreeAt.putN {h h' : H} {mf mn : Nat} {t : Tre} {nl : List (List UInt8 × Int)} (q : TreeAt h mf mn t) (o : Only (· = mn) h h') (g : h'.get mn = .smap (nl.map nameE)) : TreeAt h' mf mn ⟨t.files, nl⟩ := by
  obtain ⟨es, e1, e2⟩ := q.files
  exact ⟨by rw [o.base]; exact q.bf, by rw [o.base]; exact q.bn, q.ne, ⟨es, o.at e1 rfl fun e => q.ne e, e2.only o⟩, g⟩
theorem same_map (m : Nat) : AV.same (.map m) (.map m) = true := by simp [AV.same]
theorem same_int (kk : IntKind) (n : Int) : AV.same (.int kk n) (.int kk n) = true := by simp [AV.same]
theorem SlB.self {h : H} {v : AV} {b : List UInt8} (s : SlB h v b) : AV.same v v = true := by
  rcases s with ⟨rfl, rfl⟩ | ⟨id, off, cap, ex, t, f, sg, l, rfl, _⟩ <;> simp [AV.same]
theorem WaitAt.self {h : H} {wr : Option Nat} {v : AV} {l : List Stp} (w : WaitAt h wr v l) : AV.same v v = true := by
  rcases w with ⟨rfl, rfl, rfl⟩ | ⟨hl, id, mv, cs, h1, rfl, h3, h4, h5⟩ <;> simp [AV.same]
theorem Low.only {h h' : H} (l : Low h.next h h') : Only noL h h' :=
  ⟨l.base, l.next, fun i hi _ => l.get i hi, fun i t f g s e => l.get i (H.lt_of_live (by rw [e]; rfl))⟩
theorem Only.low {h h1 h2 : H} (o : Only noL h h1) (l : Low h.next h1 h2) : Only noL h h2 :=
  ⟨l.base.trans o.base, Nat.le_trans o.next l.next, fun i hi hn => (l.get i hi).trans (o.get i hi hn), fun i t f g s e => (l.get i (H.lt_of_live (by rw [e]; rfl))).trans (o.byt i t f g s e)⟩
end Go.Am
