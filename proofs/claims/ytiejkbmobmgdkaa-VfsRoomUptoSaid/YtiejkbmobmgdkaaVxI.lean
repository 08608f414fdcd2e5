/- The file system's calls: Create, Sync, SyncNames, Rename, Remove, Read, Fuse, Steps, On. No condition. -/
import Derived.Test.YtiejkbmobmgdkaaAmS3
import Derived.Test.YtiejkbmobmgdkaaVxH
namespace Go.Am
open Go
set_option linter.all false
theorem eqI_dec (a b : Int) : eqI a b = decide (a = b) := by rw [eqI_eq]; rfl
def kNames : Stp → Bool := fun s => !decide (s.kind = 0)
def kFile (n : Int) : Stp → Bool := fun s => decide (s.kind = 0) && decide (s.file = n)
noncomputable def Fs.create (fs : Fs) (s : List UInt8) : Int × Fs :=
  if fs.asked [s] ≠ 0 then (fs.asked [s], fs) else if (nget fs.held.names s).isSome then (9, fs)
  else ((fs.pend ⟨1, s, [], fs.next, []⟩).1, { (fs.pend ⟨1, s, [], fs.next, []⟩).2 with next := wrapF .i64 (Int.add (fs.pend ⟨1, s, [], fs.next, []⟩).2.next 1) })
noncomputable def Fs.sync (fs : Fs) (s : List UInt8) : Int × Fs := if (fs.file s).2 ≠ 0 then ((fs.file s).2, fs) else fs.settle (kFile (fs.file s).1)
noncomputable def Fs.syncNames (fs : Fs) : Int × Fs := if fs.asked [] ≠ 0 then (fs.asked [], fs) else fs.settle kNames
noncomputable def Fs.rename (fs : Fs) (a b : List UInt8) : Int × Fs :=
  if fs.asked [a, b] ≠ 0 then (fs.asked [a, b], fs) else if (fs.file a).2 ≠ 0 then ((fs.file a).2, fs) else fs.pend ⟨2, a, b, 0, []⟩
noncomputable def Fs.remove (fs : Fs) (a : List UInt8) : Int × Fs := if (fs.file a).2 ≠ 0 then ((fs.file a).2, fs) else fs.pend ⟨3, a, [], 0, []⟩
def Fs.read (fs : Fs) (a : List UInt8) : List UInt8 × Int := if (fs.file a).2 ≠ 0 then ([], (fs.file a).2) else (fbytes fs.held.files (fs.file a).1, 0)
def Fs.fuse (fs : Fs) (n : Int) : Int × Fs := if fs.asked [] ≠ 0 then (fs.asked [], fs) else if n < 0 then (2, fs) else (0, { fs with fused := true, left := n })
end Go.Am
namespace Go.Proofs.Ytiejkbmobmgdkaa
open Go Go.Am
set_option linter.all false
set_option maxRecDepth 100000
theorem meant38 (g : FsG) (h : H) : Meant (gam J0 [(38, w38 s38), (40, w40 s40), (43, w43 s43), (49, w49 s49)]) (.func (.func 38) [] []) kNames g h := by
  intro s u hc K o hu hK
  show s38G J0 (.agg (s.cells u)) hc fun b h => K (.bool b) h
  unfold s38G
  rw [asAgg_agg]
  refine push_r fun h2 o2 n2 g2 => ?_
  rw [ldI_at g2 rfl, fB_eq, eqI_eq]
  exact hK h2 o2
theorem meant40 {g : FsG} {h : H} {j : Nat} {n : Int} (e : h.get j = .cells false 3 [.int .i64 n]) (hj : ¬ Own g j) : Meant (gam J0 [(38, w38 s38), (40, w40 s40), (43, w43 s43), (49, w49 s49)]) (.func (.func 40) [] [.ptr j 0]) (kFile n) g h := by
  intro s u hc K o hu hK
  show s40G J0 (.agg (s.cells u)) (.ptr j 0) hc fun b h => K (.bool b) h
  unfold s40G
  rw [asAgg_agg]
  refine push_r fun h2 o2 n2 g2 => ?_
  have e2 := o2.at (o.at e rfl hj) rfl id
  have := hK h2 o2
  unfold kFile at this
  rw [ldI_at g2 rfl, fB_eq, eqI_dec]
  by_cases h0 : s.kind = 0
  · rw [decide_eq_true h0] at this
    rw [show decide (s.kind = Int.ofNat 0) = true from decide_eq_true h0]
    simp only [jn_is, br_t]
    rw [ldI_at g2 rfl, ldI_at e2 rfl, asI_int, asI_int, fB_eq, pickB_t, asB_bool, eqI_dec]
    exact this
  · rw [decide_eq_false h0] at this
    rw [show decide (s.kind = Int.ofNat 0) = false from decide_eq_false h0]
    simp only [jn_is, br_f]
    exact this
theorem p12 {h : H} {g : FsG} {fs : Fs} {k : Int → H → Prop} (f : FsAt h g fs) (fit : fs.Fits mostRoom) (hk : ∀ h' g', FsAt h' g' fs.syncNames.2 → Nxt h g h' g' → k fs.syncNames.1 h') : s12 (.ptr g.id 0) h k := by
  show s12G J0 s34 s37 s38 _ h k
  unfold s12G
  refine p34 (l := []) f (.inl ⟨rfl, rfl⟩) (by show 0 < 4611686018427387904; omega) ?_
  rw [fB_eq]
  refine br_intro (fun h0 => ?_) fun h0 => ?_
  · have h0 : fs.asked [] ≠ 0 := eqI_false.1 (Am.not_true.1 h0)
    have : fs.syncNames = (fs.asked [], fs) := by unfold Fs.syncNames; rw [if_pos h0]
    rw [this] at hk
    exact hk h g f (Nxt.refl _ _)
  · have h0 : fs.asked [] = 0 := eqI_true.1 (not_false'.1 h0)
    have : fs.syncNames = fs.settle kNames := by unfold Fs.syncNames; rw [if_neg (by rw [h0]; simp)]
    rw [this] at hk
    exact p37 f fit (meant38 g h) hk
theorem p14 {h : H} {g : FsG} {fs : Fs} {s : List UInt8} {k : Int → H → Prop} (f : FsAt h g fs) (fit : fs.Fits mostRoom) (hk : ∀ h' g', FsAt h' g' (fs.sync s).2 → Nxt h g h' g' → k (fs.sync s).1 h') : s14 (.ptr g.id 0) (Str.of s) h k := by
  show s14G J0 s37 s39 s40 _ _ h k
  unfold s14G
  refine p39 f fit fun h1 f1 o1 => ?_
  refine push_r fun h5 o5 n5 g5 => ?_
  refine stV_r g5 rfl rfl (by rw [o5.base]; exact f1.wf) fun h6 o6 n6 g6 => ?_
  have o16 : Only noL h1 h6 := o5.trans o6 fun j hj e => by omega
  have f6 := f1.only o16 fun _ _ => id
  have o06 := o1.trans o16 fun _ _ => id
  rw [fB_eq]
  refine br_intro (fun h0 => ?_) fun h0 => ?_
  · have h0 : (fs.file s).2 ≠ 0 := eqI_false.1 (Am.not_true.1 h0)
    have : fs.sync s = ((fs.file s).2, fs) := by unfold Fs.sync; rw [if_pos h0]
    rw [this] at hk
    exact hk h6 g f6 (Nxt.pure g o06)
  · have h0 : (fs.file s).2 = 0 := eqI_true.1 (not_false'.1 h0)
    have : fs.sync s = fs.settle (kFile (fs.file s).1) := by unfold Fs.sync; rw [if_neg (by rw [h0]; simp)]
    rw [this] at hk
    have hj : ¬ Own g h1.next := fun c => by have := Own.live f1 c; omega
    exact p37 f6 fit (meant40 g6 hj) fun h' g' f' nx => hk h' g' f' ((Nxt.pure g o06).trans nx)
theorem p11 {h : H} {g : FsG} {fs : Fs} {s : List UInt8} {k : Int → H → Prop} (f : FsAt h g fs) (fit : fs.Fits mostRoom) (hl : (fs.wait.length + 1) * 72 ≤ mostRoom) (hk : ∀ h' g', FsAt h' g' (fs.create s).2 → Nxt h g h' g' → k (fs.create s).1 h') : s11 (.ptr g.id 0) (Str.of s) h k := by
  show s11G J0 s34 s35 s36 _ _ h k
  unfold s11G
  refine push_r fun h2 o2 n2 g2 => ?_
  have f2 := f.only o2 fun _ _ => id
  refine p34 (l := [s]) f2 (.inr ⟨h.next, 1, true, rfl, g2⟩) (by show 1 < 4611686018427387904; omega) ?_
  rw [fB_eq]
  refine br_intro (fun h0 => ?_) fun h0 => ?_
  · have h0 : fs.asked [s] ≠ 0 := eqI_false.1 (Am.not_true.1 h0)
    have : fs.create s = (fs.asked [s], fs) := by unfold Fs.create; rw [if_pos h0]
    rw [this] at hk
    exact hk h2 g f2 (Nxt.pure g o2)
  · have h0 : fs.asked [s] = 0 := eqI_true.1 (not_false'.1 h0)
    refine p35 f2 fit fun h6 mf mn t6 hmf hmn o6 => ?_
    have o26 := o2.trans o6 fun _ _ => id
    have f6 := f.only o26 fun _ _ => id
    rw [asAgg_agg]
    show op' (some (AV.map mn)) _
    rw [op'_some, lookN' vt t6, op'_some, asTup_tuple]
    show op' (some (AV.int .i64 (nfile fs.held.names s))) _
    rw [op'_some, asI_int, asTup_tuple]
    show op' (some (AV.bool (nget fs.held.names s).isSome)) _
    rw [op'_some, asB_bool]
    refine br_intro (fun h1 => ?_) fun h1 => ?_
    · have : fs.create s = (9, fs) := by unfold Fs.create; rw [if_neg (by rw [h0]; simp), if_pos h1]
      rw [this] at hk
      exact hk h6 g f6 (Nxt.pure g o26)
    · have : fs.create s = ((fs.pend ⟨1, s, [], fs.next, []⟩).1, { (fs.pend ⟨1, s, [], fs.next, []⟩).2 with next := wrapF .i64 (Int.add (fs.pend ⟨1, s, [], fs.next, []⟩).2.next 1) }) := by
        unfold Fs.create; rw [if_neg (by rw [h0]; simp), if_neg (by rw [h1]; simp)]
      rw [this] at hk
      obtain ⟨w, e1, _⟩ := f6.obj
      rw [okNil_ptr, faK_ptr, ldI_at e1 rfl]
      refine p36 (s := ⟨1, s, [], fs.next, []⟩) (u := .nils) f6 (SlB.nil _) hl fun h19 g19 f19 nx => ?_
      have hg := nx.id
      obtain ⟨w', e19, _⟩ := f19.obj
      rw [hg] at e19
      rw [okNil_ptr, faK_ptr, ldI_at e19 rfl, fI_eq, okNil_ptr, faK_ptr]
      refine stV_r e19 rfl rfl (by rw [← hg]; exact f19.bs) fun h25 o25 n25 g25 => ?_
      have o25' : Only (· = g19.id) h19 h25 := o25.imp fun _ _ c => by rw [hg]; exact c
      have e19' : h19.get g19.id = .cells false 60 ((fs.pend ⟨1, s, [], fs.next, []⟩).2.cells g19 w') := by rw [hg]; exact e19
      refine hk h25 g19 (f19.put o25' rfl rfl fun u e => ?_) (((Nxt.pure g o26).trans nx).trans ⟨rfl, o25'.imp fun _ _ c => .inl c, fun _ => .inl⟩)
      have : u = w' := by rw [e19'] at e; injection e with _ _ e; unfold Fs.cells at e; injection e with _ e; injection e with _ e; injection e with e _; exact e.symm
      rw [this, hg, g25]; rfl
theorem p24 {h : H} {g : FsG} {fs : Fs} {a b : List UInt8} {k : Int → H → Prop} (f : FsAt h g fs) (fit : fs.Fits mostRoom) (hl : (fs.wait.length + 1) * 72 ≤ mostRoom) (hk : ∀ h' g', FsAt h' g' (fs.rename a b).2 → Nxt h g h' g' → k (fs.rename a b).1 h') : s24 (.ptr g.id 0) (Str.of a) (Str.of b) h k := by
  show s24G J0 s34 s36 s39 _ _ _ h k
  unfold s24G
  refine push_r fun h2 o2 n2 g2 => ?_
  have f2 := f.only o2 fun _ _ => id
  refine p34 (l := [a, b]) f2 (.inr ⟨h.next, 2, true, rfl, g2⟩) (by show 2 < 4611686018427387904; omega) ?_
  rw [fB_eq]
  refine br_intro (fun h0 => ?_) fun h0 => ?_
  · have h0 : fs.asked [a, b] ≠ 0 := eqI_false.1 (Am.not_true.1 h0)
    have : fs.rename a b = (fs.asked [a, b], fs) := by unfold Fs.rename; rw [if_pos h0]
    rw [this] at hk
    exact hk h2 g f2 (Nxt.pure g o2)
  · have h0 : fs.asked [a, b] = 0 := eqI_true.1 (not_false'.1 h0)
    refine p39 f2 fit fun h6 f6 o6 => ?_
    have o26 := o2.trans o6 fun _ _ => id
    rw [fB_eq]
    refine br_intro (fun h1 => ?_) fun h1 => ?_
    · have h1 : (fs.file a).2 ≠ 0 := eqI_false.1 (Am.not_true.1 h1)
      have : fs.rename a b = ((fs.file a).2, fs) := by unfold Fs.rename; rw [if_neg (by rw [h0]; simp), if_pos h1]
      rw [this] at hk
      exact hk h6 g f6 (Nxt.pure g o26)
    · have h1 : (fs.file a).2 = 0 := eqI_true.1 (not_false'.1 h1)
      have : fs.rename a b = fs.pend ⟨2, a, b, 0, []⟩ := by unfold Fs.rename; rw [if_neg (by rw [h0]; simp), if_neg (by rw [h1]; simp)]
      rw [this] at hk
      exact p36 (s := ⟨2, a, b, 0, []⟩) (u := .nils) f6 (SlB.nil _) hl fun h' g' f' nx => hk h' g' f' ((Nxt.pure g o26).trans nx)
theorem p25 {h : H} {g : FsG} {fs : Fs} {a : List UInt8} {k : Int → H → Prop} (f : FsAt h g fs) (fit : fs.Fits mostRoom) (hl : (fs.wait.length + 1) * 72 ≤ mostRoom) (hk : ∀ h' g', FsAt h' g' (fs.remove a).2 → Nxt h g h' g' → k (fs.remove a).1 h') : s25 (.ptr g.id 0) (Str.of a) h k := by
  show s25G J0 s36 s39 _ _ h k
  unfold s25G
  refine p39 f fit fun h6 f6 o6 => ?_
  rw [fB_eq]
  refine br_intro (fun h1 => ?_) fun h1 => ?_
  · have h1 : (fs.file a).2 ≠ 0 := eqI_false.1 (Am.not_true.1 h1)
    have : fs.remove a = ((fs.file a).2, fs) := by unfold Fs.remove; rw [if_pos h1]
    rw [this] at hk
    exact hk h6 g f6 (Nxt.pure g o6)
  · have h1 : (fs.file a).2 = 0 := eqI_true.1 (not_false'.1 h1)
    have : fs.remove a = fs.pend ⟨3, a, [], 0, []⟩ := by unfold Fs.remove; rw [if_neg (by rw [h1]; simp)]
    rw [this] at hk
    exact p36 (s := ⟨3, a, [], 0, []⟩) (u := .nils) f6 (SlB.nil _) hl fun h' g' f' nx => hk h' g' f' ((Nxt.pure g o6).trans nx)
theorem p20 {h : H} {g : FsG} {fs : Fs} {a : List UInt8} {k : AV → Int → H → Prop} (f : FsAt h g fs) (fit : fs.Fits mostRoom) (hk : ∀ v h', FsAt h' g fs → Only noL h h' → SlB h' v (fs.read a).1 → k v (fs.read a).2 h') : s20 (.ptr g.id 0) (Str.of a) h k := by
  show s20G J0 s35 s39 s42 _ _ h k
  unfold s20G
  refine p39 f fit fun h1 f1 o1 => ?_
  rw [fB_eq]
  refine br_intro (fun h0 => ?_) fun h0 => ?_
  · have h0 : (fs.file a).2 ≠ 0 := eqI_false.1 (Am.not_true.1 h0)
    have : fs.read a = ([], (fs.file a).2) := by unfold Fs.read; rw [if_pos h0]
    rw [this] at hk
    exact hk _ h1 f1 o1 (SlB.nil _)
  · have h0 : (fs.file a).2 = 0 := eqI_true.1 (not_false'.1 h0)
    have : fs.read a = (fbytes fs.held.files (fs.file a).1, 0) := by unfold Fs.read; rw [if_neg (by rw [h0]; simp)]
    rw [this] at hk
    refine p35 f1 fit fun h6 mf mn t6 hmf hmn o6 => ?_
    rw [asAgg_agg]
    show op' (some (AV.map mf)) _
    obtain ⟨v, e1, hv⟩ := lookF vt t6 (fs.file a).1
    rw [op'_some, e1, op'_some]
    have o16 := o1.trans o6 fun _ _ => id
    obtain ⟨n, hbn, hfit⟩ := fit
    refine p42 hv t6.wf (by have := (hbn.steps (t := fs.sure) (l := fs.wait)).get (fs.file a).1; exact Nat.le_trans this hfit) fun v' h' r o' => ?_
    have o := o16.trans o' fun _ _ => id
    exact hk v' h' (f.only o fun _ _ => id) o (SlB.ofRow r)
theorem p13 {h : H} {g : FsG} {fs : Fs} {n : Int} {k : Int → H → Prop} (f : FsAt h g fs) (hk : ∀ h' g', FsAt h' g' (fs.fuse n).2 → Nxt h g h' g' → k (fs.fuse n).1 h') : s13 (.ptr g.id 0) n h k := by
  show s13G J0 s34 _ _ h k
  unfold s13G
  refine p34 (l := []) f (.inl ⟨rfl, rfl⟩) (by show 0 < 4611686018427387904; omega) ?_
  rw [fB_eq]
  refine br_intro (fun h0 => ?_) fun h0 => ?_
  · have h0 : fs.asked [] ≠ 0 := eqI_false.1 (Am.not_true.1 h0)
    have : fs.fuse n = (fs.asked [], fs) := by unfold Fs.fuse; rw [if_pos h0]
    rw [this] at hk
    exact hk h g f (Nxt.refl _ _)
  · have h0 : fs.asked [] = 0 := eqI_true.1 (not_false'.1 h0)
    rw [fB_eq]
    refine br_intro (fun h1 => ?_) fun h1 => ?_
    · have h1 : n < 0 := ltI_true.1 h1
      have : fs.fuse n = (2, fs) := by unfold Fs.fuse; rw [if_neg (by rw [h0]; simp), if_pos h1]
      rw [this] at hk
      exact hk h g f (Nxt.refl _ _)
    · have h1 : 0 ≤ n := ltI_false.1 h1
      have : fs.fuse n = (0, { fs with fused := true, left := n }) := by unfold Fs.fuse; rw [if_neg (by rw [h0]; simp), if_neg (by omega)]
      rw [this] at hk
      obtain ⟨w, e1, _⟩ := f.obj
      rw [okNil_ptr, faK_ptr]
      refine stV_r e1 rfl rfl f.bs fun h6 o6 n6 g6 => ?_
      rw [okNil_ptr, faK_ptr]
      refine stV_r g6 rfl rfl (by rw [o6.base]; exact f.bs) fun h8 o8 n8 g8 => ?_
      have o := o6.trans o8 fun _ _ => id
      refine hk h8 g (f.put o rfl rfl fun u e => ?_) ⟨rfl, o.imp fun _ _ c => .inl c, fun _ => .inl⟩
      have : u = w := by rw [e1] at e; injection e with _ _ e; unfold Fs.cells at e; injection e with _ e; injection e with _ e; injection e with e _; exact e.symm
      rw [this, g8]; rfl
theorem p28 {h : H} {g : FsG} {fs : Fs} {k : Int → H → Prop} (f : FsAt h g fs) (hk : k fs.steps h) : s28 (.ptr g.id 0) h k := by
  show s28G J0 _ h k
  obtain ⟨w, e1, _⟩ := f.obj
  unfold s28G nilB
  rw [show Nat.beq (nilCode (.ptr g.id 0)) 0 = false from rfl, br_f, show Nat.beq (nilCode (.ptr g.id 0)) (Nat.succ 0) = true from rfl, ck_t]
  dsimp only
  rw [br_f, okNil_ptr, faK_ptr, ldI_at e1 rfl]
  exact hk
theorem p18 {h : H} {g : FsG} {fs : Fs} {k : Bool → H → Prop} (f : FsAt h g fs) (hk : k (!fs.off) h) : s18 (.ptr g.id 0) h k := by
  show s18G J0 s34 _ h k
  unfold s18G
  refine p34 (l := []) f (.inl ⟨rfl, rfl⟩) (by show 0 < 4611686018427387904; omega) ?_
  rw [fB_eq]
  unfold Fs.asked
  cases hf : fs.off <;> rw [hf] at hk <;> exact hk
end Go.Proofs.Ytiejkbmobmgdkaa
