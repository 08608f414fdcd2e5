/- The model of a file system's object, and 'held'. No condition. -/
import Derived.Test.YtiejkbmobmgdkaaVxD
namespace Go.Am
open Go
set_option linter.all false
structure Fs where
  sure : Tre
  wait : List Stp
  room : Int
  next : Int
  off : Bool
  fused : Bool
  left : Int
  steps : Int
/-- where a file system's blocks lie -/
structure FsG where
  id : Nat
  mf : Nat
  mn : Nat
  wr : Option Nat
def Fs.cells (fs : Fs) (g : FsG) (w : AV) : List AV := [.map g.mf, .map g.mn, w, .int .i64 fs.room, .int .i64 fs.next, .bool fs.off, .bool fs.fused, .int .i64 fs.left, .int .i64 fs.steps, .bool true]
structure FsAt (h : H) (g : FsG) (fs : Fs) : Prop where
  bs : h.base ≤ g.id
  obj : ∃ w, h.get g.id = .cells false 60 (fs.cells g w) ∧ WaitAt h g.wr w fs.wait
  tree : TreeAt h g.mf g.mn fs.sure
def Own (g : FsG) (i : Nat) : Prop := i = g.id ∨ i = g.mf ∨ i = g.mn ∨ g.wr = some i
theorem FsAt.only {L : Nat → Prop} {h h' : H} {g : FsG} {fs : Fs} (f : FsAt h g fs) (o : Only L h h') (hn : ∀ i, Own g i → ¬ L i) : FsAt h' g fs := by
  obtain ⟨w, e1, e2⟩ := f.obj
  exact ⟨by rw [o.base]; exact f.bs, ⟨w, o.at e1 rfl (hn _ (.inl rfl)), e2.only o fun i e => hn i (.inr (.inr (.inr e)))⟩, f.tree.only o (hn _ (.inr (.inl rfl))) (hn _ (.inr (.inr (.inl rfl))))⟩
theorem FsAt.wf {h : H} {g : FsG} {fs : Fs} (f : FsAt h g fs) : h.base ≤ h.next := f.tree.wf
/-- what is held fits into the machine -/
def Fs.Fits (fs : Fs) (N : Nat) : Prop := ∃ n, Bnd n fs.sure ∧ n + wsum fs.wait ≤ N
theorem Fs.Fits.mono {fs : Fs} {N M : Nat} (f : fs.Fits N) (h : N ≤ M) : fs.Fits M := by
  obtain ⟨n, h1, h2⟩ := f; exact ⟨n, h1, by omega⟩
def Fs.held (fs : Fs) : Tre := fs.sure.steps fs.wait
theorem wsum_take {l : List Stp} {i : Nat} (h : i < l.length) : wsum (l.take i) + (l[i].bytes.length + 72) ≤ wsum l := by
  have e : wsum l = wsum (l.take i) + wsum (l.drop i) := by rw [← wsum_append, List.take_append_drop]
  rw [e, List.drop_eq_getElem_cons h, wsum_cons]; omega
theorem steps_snoc (t : Tre) (l : List Stp) (s : Stp) : t.steps (l ++ [s]) = (t.steps l).step s := by simp [Tre.steps]
theorem inc_nat {i : Nat} (h : i < 9223372036854775807) : wrapF .i64 (Int.add (Int.ofNat i) (Int.ofNat 1)) = Int.ofNat (i + 1) := by
  show wrapF .i64 (Int.ofNat (i + 1)) = _
  exact wrapF_nat (by show i + 1 < 9223372036854775808; omega)
theorem ltI_nat {i n : Nat} : ltI (Int.ofNat i) (Int.ofNat n) = true ↔ i < n := by rw [ltI_true]; exact Int.ofNat_lt
theorem ltI_nat' {i n : Nat} : ltI (Int.ofNat i) (Int.ofNat n) = false ↔ n ≤ i := by rw [ltI_false]; exact Int.ofNat_le
end Go.Am
namespace Go.Proofs.Ytiejkbmobmgdkaa
open Go Go.Am
set_option linter.all false
set_option maxRecDepth 100000
theorem assert54 (v : AV) : aAssert ty 54 false (.iface 54 v) = some v := by
  unfold aAssert
  rw [show ((ty 54).kd.known && !(ty 54).kd.isIface) = true from by kernel_rfl]
theorem assert55 (v : AV) : aAssert ty 55 false (.iface 55 v) = some v := by
  unfold aAssert
  rw [show ((ty 55).kd.known && !(ty 55).kd.isIface) = true from by kernel_rfl]
theorem clone_at {h : H} {m t : Nat} {es : List (AV × AV)} (g : h.get m = .smap es) (K : AV → H → Prop) : cloneF [.iface t (.map m)] h K = pushK (.smap es) h fun n h' => K (.iface t (.map n)) h' := by
  unfold cloneF
  dsimp only
  rw [g]; rfl
theorem p47 {h : H} {m : Nat} {es : List (AV × AV)} {k : AV → H → Prop} (g : h.get m = .smap es) (hk : ∀ h', Only noL h h' → h'.next = h.next + 1 → h'.get h.next = .smap es → k (.map h.next) h') : s47 (.map m) h k := by
  show s47G J0 g54 (.map m) h k
  unfold s47G nilB
  rw [show Nat.beq (nilCode (.map m)) 4 = false from rfl, br_f, show Nat.beq (nilCode (.map m)) (Nat.succ 4) = true from rfl, ck_t]
  unfold g54
  dsimp only
  rw [br_f]
  rw [clone_at g]
  refine push_r fun h' o n g' => ?_
  rw [assert54, op'_some]
  exact hk h' o n g'
theorem p48 {h : H} {m : Nat} {es : List (AV × AV)} {k : AV → H → Prop} (g : h.get m = .smap es) (hk : ∀ h', Only noL h h' → h'.next = h.next + 1 → h'.get h.next = .smap es → k (.map h.next) h') : s48 (.map m) h k := by
  show s48G J0 g54 (.map m) h k
  unfold s48G nilB
  rw [show Nat.beq (nilCode (.map m)) 4 = false from rfl, br_f, show Nat.beq (nilCode (.map m)) (Nat.succ 4) = true from rfl, ck_t]
  unfold g54
  dsimp only
  rw [br_f]
  rw [clone_at g]
  refine push_r fun h' o n g' => ?_
  rw [assert55, op'_some]
  exact hk h' o n g'
/-- a round of held -/
structure R35 (h0 : H) (fs : Fs) (w : AV) (a b mf mn : Nat) (m : Nat) (v : AV × AV × AV × AV × AV × Unit) (d : List Dfr) (h : H) (i : Nat) : Prop where
  m : m = fs.wait.length - i
  le : i ≤ fs.wait.length
  v : v = (.ptr a 0, .ptr b 0, w, .int .i64 (Int.ofNat fs.wait.length), .int .i64 (Int.ofNat i), ())
  d : d = []
  o : Only noL h0 h
  ga : h.get a = .cells false 57 [.nilm, .nilm]
  gb : h.get b = .cells false 57 [.map mf, .map mn]
  t : TreeAt h mf mn (fs.sure.steps (fs.wait.take i))
theorem p35 {h : H} {g : FsG} {fs : Fs} {k : AV → H → Prop} (f : FsAt h g fs) (fit : fs.Fits mostRoom) (hk : ∀ h' mf mn, TreeAt h' mf mn fs.held → h.next ≤ mf → h.next ≤ mn → Only noL h h' → k (.agg [.map mf, .map mn]) h') : s35 (.ptr g.id 0) h k := by
  obtain ⟨n, hbn, hfit⟩ := fit
  obtain ⟨w, e1, e2⟩ := f.obj
  have hlen : fs.wait.length * 72 ≤ mostRoom := by have := wsum_len fs.wait; omega
  have hmost : mostRoom = 140737488355328 := rfl
  show s35G J0 s43 s47 s48 _ h k
  unfold s35G
  refine push_r fun h2 o2 n2 g2 => ?_
  have f2 := f.only o2 fun _ _ => id
  have e1' := o2.at e1 rfl id
  rw [okNil_ptr, faK_ptr, faK_ptr, ldV_at e1' rfl, okNil_ptr, faK_ptr, faK_ptr, ldV_at e1' rfl]
  refine push_r fun h10 o10 n10 g10 => ?_
  have o210 : Only noL h h10 := o2.trans o10 fun _ _ => id
  have f10 := f.only o210 fun _ _ => id
  obtain ⟨es, m1, m2⟩ := f10.tree.files
  refine p47 m1 fun h11 o11 n11 g11 => ?_
  have o211 : Only noL h h11 := o210.trans o11 fun _ _ => id
  have f11 := f.only o211 fun _ _ => id
  refine ck_intro (reads_self (aLoad1_at (o211.at e1 rfl id)) (same_map _)) ?_
  refine p48 f11.tree.names fun h13 o13 n13 g13 => ?_
  have o213 : Only noL h h13 := o211.trans o13 fun _ _ => id
  refine ck_intro rfl (ck_intro rfl ?_)
  have gb13 : h13.get h2.next = .cells false 57 [.nilm, .nilm] := o13.at (o11.at g10 rfl id) rfl id
  refine stN_r gb13 rfl rfl rfl (by rw [o213.base]; have := f.wf; omega) fun h15 o15 n15 g15 => ?_
  have gone : ∀ i, i < h.next → ¬ i = h2.next := fun i hi e => by omega
  have o215 : Only noL h h15 := o213.trans o15 fun i hi e => gone i hi e
  have f15 := f.only o215 fun _ _ => id
  have e15 := o215.at e1 rfl id
  rw [okNil_ptr, faK_ptr, ldV_at e15 rfl]
  show lenK w _
  rw [e2.len]
  have hmf : h15.get h10.next = .smap es := o15.at (o13.at g11 rfl id) rfl fun e => by omega
  have hmn : h15.get h11.next = .smap (fs.sure.names.map nameE) := o15.at g13 rfl fun e => by omega
  have ga15 : h15.get h.next = .cells false 57 [.nilm, .nilm] := o15.at (o13.at (o11.at (o10.at g2 rfl id) rfl id) rfl id) rfl fun e => by omega
  have o1015 : Only (· = h2.next) h10 h15 := ((o11.trans o13 fun _ _ => id).imp fun _ _ c => c.elim).trans o15 fun _ _ => id
  refine lp_rule (fun m v d h' => ∃ i, R35 h fs w h.next h2.next h10.next h11.next m v d h' i) (fun m self v d hc inv next => ?_) (n := fs.wait.length) (by show _ < 4611686018427387904; omega) ⟨0, rfl, Nat.zero_le _, rfl, rfl, o215, ga15, g15, ?_⟩
  · obtain ⟨i, I⟩ := inv
    obtain ⟨hm, hle, rfl, rfl, ho, ga, gb, ht⟩ := I
    have hwf : hc.base ≤ hc.next := ht.wf
    show asI .i64 (.int .i64 (Int.ofNat i)) _
    rw [asI_int, asI_int, fB_eq]
    refine br_intro (fun h0 => ?_) fun h0 => ?_
    · have hi := ltI_nat.1 h0
      refine WaitAt.read (e2.only ho fun _ _ => id) hi fun p u hu => ?_
      refine push_r fun h29 o29 n29 g29 => ?_
      refine stN_r g29 rfl (Stp.ones _ hu.one) rfl (by rw [o29.base]; exact hwf) fun h30 o30 n30 g30 => ?_
      have o130 : Only noL hc h30 := o29.trans o30 fun j hj e => by omega
      show ldN 2 (.ptr h2.next 0) h30 _
      rw [ldN_at (o130.at gb rfl id) rfl, ldN_at g30 rfl]
      refine p43 (ht.only o130 id id) (hu.only o130) (hbn.steps (t := fs.sure)) (by have := wsum_take hi; omega) fun h33 q33 o33 => ?_
      show asI .i64 (.int .i64 (Int.ofNat i)) _
      rw [asI_int, inc_nat (by omega), fI_eq]
      have hf := ht.lf
      have hn := ht.ln
      have far : ∀ j, Two h10.next h11.next j → ¬ j < h.next ∧ j ≠ h.next ∧ j ≠ h2.next := by
        rintro j (rfl | rfl) <;> omega
      have o1c : Only (Two h10.next h11.next) hc h33 := (o130.imp fun _ _ c => c.elim).trans o33 fun _ _ => id
      refine next (fs.wait.length - (i + 1)) _ _ _ (by omega) ⟨i + 1, rfl, hi, rfl, rfl, ho.trans o1c fun j hj c => (far j c).1 hj, o1c.at ga rfl fun c => (far _ c).2.1 rfl, o1c.at gb rfl fun c => (far _ c).2.2 rfl, ?_⟩
      rw [List.take_succ_eq_append_getElem hi, steps_snoc]
      exact q33
    · have hi := ltI_nat'.1 h0
      have : i = fs.wait.length := by omega
      subst this
      rw [List.take_length] at ht
      show ldN 2 (.ptr h2.next 0) hc _
      rw [ldN_at gb rfl]
      refine stN_r ga rfl rfl rfl (by rw [ho.base]; exact f.wf) fun h37 o37 n37 g37 => ?_
      show ldN 2 (.ptr h.next 0) h37 _
      rw [ldN_at g37 rfl]
      refine hk _ _ _ (ht.only o37 (fun e => by omega) fun e => by omega) (by omega) (by omega) (ho.trans o37 fun j hj e => by omega)
  · refine ⟨?_, ?_, by omega, ⟨es, hmf, ?_⟩, hmn⟩
    · rw [o215.base]; have := f.wf; omega
    · rw [o215.base]; have := f.wf; omega
    · exact m2.only o1015
end Go.Proofs.Ytiejkbmobmgdkaa
