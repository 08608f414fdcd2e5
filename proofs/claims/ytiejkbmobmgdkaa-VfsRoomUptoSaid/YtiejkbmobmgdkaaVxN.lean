/- Left: how many bytes there is room for. No condition. -/
import Derived.Test.YtiejkbmobmgdkaaVxI
namespace Go.Am
open Go
set_option linter.all false
noncomputable def takeLeft (fl : List (Int × List UInt8)) : List (List UInt8 × Int) → Int → Int
  | [], n => n
  | p :: l, n => takeLeft fl l (wrapF .i64 (Int.sub n (Int.ofNat (fbytes fl p.2).length)))
noncomputable def Fs.space (fs : Fs) : Int := if fs.asked [] ≠ 0 then 0 else takeLeft fs.held.files fs.held.names fs.room
end Go.Am
namespace Go.Proofs.Ytiejkbmobmgdkaa
open Go Go.Am
set_option linter.all false
set_option maxRecDepth 100000
theorem lenOf_at {h : H} {j mf mn : Nat} {t : Tre} (q : TreeAt h mf mn t) (e : h.get j = .cells false 57 [.map mf, .map mn]) (x : Int) (k : Nat → Prop) : lenOf (.ptr j 0) h (.int .i64 x) k = k (fbytes t.files x).length := by
  unfold lenOf faP ldP
  rw [asI_int, asPtr_ptr, fN_eq]
  dsimp only
  rw [asPtr_ptr, e, asRow_cells]
  show op' (some (AV.map mf)) _ = _
  obtain ⟨v, e1, hv⟩ := lookF vt q x
  rw [op'_some, e1, op'_some, hv.len]
theorem foldOff_at {h : H} {j mf mn : Nat} {t : Tre} (q : TreeAt h mf mn t) (e : h.get j = .cells false 57 [.map mf, .map mn]) : ∀ (l : List (List UInt8 × Int)) (n : Int) (k : Int → Prop), foldOff (.ptr j 0) h (l.map nameE) n k = k (takeLeft t.files l n)
  | [], n, k => rfl
  | p :: l, n, k => by
    show lenOf (.ptr j 0) h (.int .i64 p.2) (fun x => fI _ fun n' => foldOff (.ptr j 0) h (l.map nameE) n' k) = _
    rw [lenOf_at q e, fI_eq, foldOff_at q e l]
    rfl
theorem p27 {h : H} {g : FsG} {fs : Fs} {k : Int → H → Prop} (f : FsAt h g fs) (fit : fs.Fits mostRoom) (hl : fs.held.names.length ≤ 1000000) (hk : ∀ h', FsAt h' g fs → Only noL h h' → k fs.space h') : s27' (.ptr g.id 0) h k := by
  unfold s27'
  refine p34 (l := []) f (.inl ⟨rfl, rfl⟩) (by show 0 < 4611686018427387904; omega) ?_
  rw [fB_eq]
  refine br_intro (fun h0 => ?_) fun h0 => ?_
  · have h0 : fs.asked [] ≠ 0 := eqI_false.1 (Am.not_true.1 h0)
    have : fs.space = 0 := by unfold Fs.space; rw [if_pos h0]
    rw [this] at hk
    exact hk h f (Only.refl _ _)
  · have h0 : fs.asked [] = 0 := eqI_true.1 (not_false'.1 h0)
    have : fs.space = takeLeft fs.held.files fs.held.names fs.room := by unfold Fs.space; rw [if_neg (by rw [h0]; simp)]
    rw [this] at hk
    obtain ⟨w, e1, _⟩ := f.obj
    rw [okNil_ptr, faK_ptr, ldI_at e1 rfl]
    refine push_r fun h7 o7 n7 g7 => ?_
    have f7 := f.only o7 fun _ _ => id
    refine p35 f7 fit fun h8 mf mn t8 hmf hmn o8 => ?_
    have o08 := o7.trans o8 fun _ _ => id
    refine ck_intro (reads_self (aLoad1_at (o08.at e1 rfl id)) (same_int _ _)) ?_
    rw [asAgg_agg]
    refine stN_r (o8.at g7 rfl id) rfl rfl rfl (by rw [o08.base]; exact f.wf) fun h10 o10 n10 g10 => ?_
    have o010 : Only noL h h10 := o08.trans o10 fun i hi e => by omega
    refine ck_intro (reads_self (aLoad1_at (o010.at e1 rfl id)) (same_int _ _)) ?_
    have t10 := t8.only o10 (fun e => by omega) fun e => by omega
    rw [ldV_at g10 rfl]
    unfold smK
    simp only [t10.names]
    refine ck_intro ((ble_iff _ _).2 t10.bn) (ck_intro ((ble_iff _ _).2 (by simpa using hl)) ?_)
    rw [foldOff_at t10 g10]
    refine push_r fun h' o' n' g' => ?_
    have o := o010.trans o' fun _ _ => id
    exact hk h' (f.only o fun _ _ => id) o
end Go.Proofs.Ytiejkbmobmgdkaa

/- The round of Append's range over slices.Chunk. No condition. -/
namespace Go.Proofs.Ytiejkbmobmgdkaa
open Go Go.Am
set_option linter.all false
set_option maxRecDepth 100000
theorem body16 (J : Joins) (c27 : AV → H → (Int → H → Prop) → Prop) (c36 : AV → AV → H → (Int → H → Prop) → Prop) (c39 : AV → Str → H → (Int → Int → H → Prop) → Prop) (c41 : AV → Int → H → (AV → H → Prop) → Prop) (c42 : AV → H → (AV → H → Prop) → Prop)
    (e0 e1 e2 e4 e5 e8 e10 e11 e12 e13 e14 e15 e16 e17 e18 e19 e20 e21 e22 e23 e24 e25 e26 e27 e28 e29 e30 e31 e32 e33 e34 e35 e36 v : AV) (n1 n3 n9 : Nat) (h : H) (A C : H → Prop) (B : Nat → H → Prop) :
    denR ty (gamI J [(27, w27 c27), (36, w36 c36), (39, w39 c39), (41, w41 c41), (42, w42 c42)] [] noCode) (rfAt Try.f16 0).2 ⟨fun _ _ h => A h, fun i _ _ h => B i h, fun _ _ h => C h⟩ [e0, e1, e2, .ptr n1 0, e4, e5, .ptr n3 0, .ptr n9 0, e8, v, e10, e11, e12, e13, e14, e15, e16, e17, e18, e19, e20, e21, e22, e23, e24, e25, e26, e27, e28, e29, e30, e31, e32, e33, e34, e35, e36] [] h =
    (ldV (AV.ptr n1 0) h fun v1 =>
ldI .i64 (AV.ptr n9 0) h fun x2 =>
c42 v h fun v4 h3 =>
ck (readsSo (aLoad1 (AV.ptr n9 0) h3) (AV.int .i64 x2)) (
ck (readsSo (aLoad1 (AV.ptr n1 0) h3) v1) (
ck (isOne v4) (c36 v1 (AV.agg [(AV.int .i64 (Int.ofNat 0)), (.str ⟨0, 0⟩), (.str ⟨0, 0⟩), (AV.int .i64 x2), v4]) h3 fun x6 h5 =>
fB (Bool.not (eqI x6 (Int.ofNat 0))) fun b7 =>
br b7 (
stV (AV.ptr n3 0) (AV.int .i64 x6) h5 fun h8 =>
C h8) (
A h5))))) := by
  kernel_rfl
theorem assign16 (J : Joins) (l : List (Nat × Fun)) (e0 e1 e2 e3 e4 e5 e6 e7 e8 e9 e10 e11 e12 e13 e14 e15 e16 e17 e18 e19 e20 e21 e22 e23 e24 e25 e26 e28 e29 e30 e31 e32 e33 e34 e35 e36 v : AV) (h : H) (N : List AV → List Dfr → H → Prop) (X : Nat → List AV → List Dfr → H → Prop) (R : List AV → List Dfr → H → Prop) :
    denR ty (gamI J l [] noCode) (rfAt Try.f16 0).1 ⟨N, X, R⟩ [e0, e1, e2, e3, e4, e5, e6, e7, e8, e9, e10, e11, e12, e13, e14, e15, e16, e17, e18, e19, e20, e21, e22, e23, e24, e25, e26, v, e28, e29, e30, e31, e32, e33, e34, e35, e36] [] h = N [e0, e1, e2, e3, e4, e5, e6, e7, e8, v, e10, e11, e12, e13, e14, e15, e16, e17, e18, e19, e20, e21, e22, e23, e24, e25, e26, v, e28, e29, e30, e31, e32, e33, e34, e35, e36] [] h := by
  kernel_rfl
end Go.Proofs.Ytiejkbmobmgdkaa

/- Append: bytes are written behind a file's end, piece by piece. No condition. -/
namespace Go.Am
open Go
set_option linter.all false
/-- the pieces from place i on are written -/
noncomputable def Fs.puts (n : Int) (b : List UInt8) : Nat → Nat → Fs → Int × Fs
  | 0, _, fs => (0, fs)
  | c + 1, i, fs => if i < b.length then (if (fs.pend ⟨0, [], [], n, (b.drop i).take 64⟩).1 = 0 then Fs.puts n b c (i + 64) (fs.pend ⟨0, [], [], n, (b.drop i).take 64⟩).2 else fs.pend ⟨0, [], [], n, (b.drop i).take 64⟩) else (0, fs)
noncomputable def Fs.append (fs : Fs) (s : List UInt8) (b : List UInt8) : Int × Fs :=
  if (fs.file s).2 ≠ 0 then ((fs.file s).2, fs) else if fs.space < Int.ofNat b.length then (8, fs) else fs.puts (fs.file s).1 b b.length 0
theorem Fs.Fits.raw {fs : Fs} {N : Nat} (f : fs.Fits N) : fs.raw.2.Fits N := by
  obtain ⟨n, h1, h2⟩ := f; exact ⟨n, by rw [Fs.raw_sure]; exact h1, by rw [Fs.raw_wait]; exact h2⟩
theorem Fs.Fits.pend {fs : Fs} {N : Nat} (f : fs.Fits N) (s : Stp) : (fs.pend s).2.Fits (N + (s.bytes.length + 72)) := by
  unfold Fs.pend
  split
  · obtain ⟨n, h1, h2⟩ := f
    refine ⟨n, ?_, ?_⟩
    · show Bnd n fs.raw.2.sure; rw [Fs.raw_sure]; exact h1
    · show n + wsum (fs.wait ++ [s]) ≤ _
      rw [wsum_append]
      have : wsum [s] = s.bytes.length + 72 := by simp [wsum]
      omega
  · exact f.raw.mono (Nat.le_add_right _ _)
theorem Fs.Fits.wait {fs : Fs} {N : Nat} (f : fs.Fits N) : fs.wait.length * 72 ≤ N := by
  obtain ⟨n, h1, h2⟩ := f; have := wsum_len fs.wait; omega
theorem setLoop_r {id : Nat} {st st' : LoopState} {p p' : Option Code} {ps : List Nat} {a b : Code} {e : List AV} {h : H} {k : H → Prop} (g : h.get id = .loop st p ps a b e) (hb : h.base ≤ id)
    (hk : ∀ h', Only (· = id) h h' → h'.next = h.next → h'.get id = .loop st' p' ps a b e → k h') : setLoop id st' p' h k := by
  unfold setLoop
  rw [g]
  exact put_r g rfl (by intros; intro c; cases c) hb hk
noncomputable def roundK (id : Nat) (k : AV → H → Prop) : Ks := ⟨fun _ _ h3 => setLoop id .ready none h3 (k (.bool true)), fun i _ _ h3 => setLoop id .done (some (.exit i)) h3 (k (.bool false)), fun _ _ h3 => setLoop id .done (some .ret) h3 (k (.bool false))⟩
noncomputable def roundN (G : Gam) (id : Nat) (b : Code) (k : AV → H → Prop) : List AV → List Dfr → H → Prop := fun e1 d1 h1 => match h1.get id with
  | .loop .ready pend _ _ _ _ => setLoop id .busy pend h1 fun h2 => G.code b (roundK id k) e1 d1 h2
  | _ => False
theorem yield_loop {G : Gam} {id q : Nat} {a b : Code} {env : List AV} {v : AV} {h : H} {k : AV → H → Prop} (gl : h.get id = .loop .ready none [q] a b env) :
    callK G (.yield id) [v] h k = G.code a ⟨fun e1 d1 h1 => match h1.get id with
      | .loop .ready pend _ _ _ _ => setLoop id .busy pend h1 fun h2 => G.code b (roundK id k) e1 d1 h2
      | _ => False, fun _ _ _ _ => False, fun _ _ _ => False⟩ (lset env q v) [] h := by
  show yieldK G id [v] h k = _
  unfold yieldK
  rw [gl]
  rfl
theorem round_loop {G : Gam} {id q : Nat} {a b : Code} {env e : List AV} {d : List Dfr} {h : H} {k : AV → H → Prop} (gl : h.get id = .loop .ready none [q] a b env) :
    roundN G id b k e d h = setLoop id .busy none h fun h2 => G.code b (roundK id k) e d h2 := by
  unfold roundN
  rw [gl]
end Go.Am
namespace Go.Proofs.Ytiejkbmobmgdkaa
open Go Go.Am
set_option linter.all false
set_option maxRecDepth 100000
noncomputable def gY : Gam := gamI J0 [] [] (denR ty (gamI J0 [(27, w27 s27'), (36, w36 s36), (39, w39 s39), (41, w41 s41), (42, w42 s42)] [] noCode))
noncomputable def Lp16 (st : LoopState) (p : Option Code) (E : List AV) : Blk := .loop st p [27] (rfAt Try.f16 0).1 (rfAt Try.f16 0).2 E
/-- a round -/
theorem yield16 {h : H} {id nF nE nN : Nat} {e0 e1 e2 e4 e5 e8 e9 e10 e11 e12 e13 e14 e15 e16 e17 e18 e19 e20 e21 e22 e23 e24 e25 e26 e27 e28 e29 e30 e31 e32 e33 e34 e35 e36 v : AV} {k : AV → H → Prop} (gl : h.get id = Lp16 .ready none [e0, e1, e2, .ptr nF 0, e4, e5, .ptr nE 0, .ptr nN 0, e8, e9, e10, e11, e12, e13, e14, e15, e16, e17, e18, e19, e20, e21, e22, e23, e24, e25, e26, e27, e28, e29, e30, e31, e32, e33, e34, e35, e36]) (hb : h.base ≤ id)
    (hk : ∀ h2, Only (· = id) h h2 → h2.next = h.next → h2.get id = Lp16 .busy none [e0, e1, e2, .ptr nF 0, e4, e5, .ptr nE 0, .ptr nN 0, e8, e9, e10, e11, e12, e13, e14, e15, e16, e17, e18, e19, e20, e21, e22, e23, e24, e25, e26, e27, e28, e29, e30, e31, e32, e33, e34, e35, e36] →
      (ldV (AV.ptr nF 0) h2 fun v1 =>
ldI .i64 (AV.ptr nN 0) h2 fun x2 =>
s42 v h2 fun v4 h3 =>
ck (readsSo (aLoad1 (AV.ptr nN 0) h3) (AV.int .i64 x2)) (
ck (readsSo (aLoad1 (AV.ptr nF 0) h3) v1) (
ck (isOne v4) (s36 v1 (AV.agg [(AV.int .i64 (Int.ofNat 0)), (.str ⟨0, 0⟩), (.str ⟨0, 0⟩), (AV.int .i64 x2), v4]) h3 fun x6 h5 =>
fB (Bool.not (eqI x6 (Int.ofNat 0))) fun b7 =>
br b7 (
stV (AV.ptr nE 0) (AV.int .i64 x6) h5 fun h8 =>
setLoop id .done (some .ret) h8 (k (.bool false))) (
setLoop id .ready none h5 (k (.bool true)))))))) : callK gY (.yield id) [v] h k := by
  unfold Lp16 at gl
  rw [yield_loop gl]
  show gY.code (rfAt Try.f16 0).1 ⟨roundN gY id (rfAt Try.f16 0).2 k, _, _⟩ _ [] h
  refine (assign16 J0 [(27, w27 s27'), (36, w36 s36), (39, w39 s39), (41, w41 s41), (42, w42 s42)] e0 e1 e2 (.ptr nF 0) e4 e5 (.ptr nE 0) (.ptr nN 0) e8 e9 e10 e11 e12 e13 e14 e15 e16 e17 e18 e19 e20 e21 e22 e23 e24 e25 e26 e28 e29 e30 e31 e32 e33 e34 e35 e36 v h (roundN gY id (rfAt Try.f16 0).2 k) (fun _ _ _ _ => False) (fun _ _ _ => False)).mpr ?_
  rw [round_loop gl]
  refine setLoop_r gl hb fun h2 o2 n2 g2 => ?_
  refine (body16 J0 s27' s36 s39 s41 s42 e0 e1 e2 e4 e5 e8 e10 e11 e12 e13 e14 e15 e16 e17 e18 e19 e20 e21 e22 e23 e24 e25 e26 v e28 e29 e30 e31 e32 e33 e34 e35 e36 v nF nE nN h2 (fun h3 => setLoop id .ready none h3 (k (.bool true))) (fun h3 => setLoop id .done (some .ret) h3 (k (.bool false))) (fun i h3 => setLoop id .done (some (.exit i)) h3 (k (.bool false)))).mpr ?_
  exact hk h2 o2 n2 g2
end Go.Proofs.Ytiejkbmobmgdkaa

/- Append: the loop over the pieces. No condition. -/
namespace Go.Proofs.Ytiejkbmobmgdkaa
open Go Go.Am
set_option linter.all false
set_option maxRecDepth 100000
/-- what a call leaves that writes the blocks of X, too -/
structure NxtX (X : Nat → Prop) (h : H) (g : FsG) (h' : H) (g' : FsG) : Prop where
  id : g'.id = g.id
  o : Only (fun i => Own g i ∨ X i) h h'
  own : ∀ i, Own g' i → Own g i ∨ h.next ≤ i
theorem NxtX.of {X : Nat → Prop} {h h' : H} {g g' : FsG} (n : Nxt h g h' g') : NxtX X h g h' g' := ⟨n.id, n.o.imp fun _ _ c => .inl c, n.own⟩
theorem NxtX.put {X : Nat → Prop} {h h' : H} (g : FsG) {L : Nat → Prop} (o : Only L h h') (hl : ∀ i, L i → X i) : NxtX X h g h' g := ⟨rfl, o.imp fun i _ c => .inr (hl i c), fun _ => .inl⟩
theorem NxtX.trans {X : Nat → Prop} {h h1 h2 : H} {g g1 g2 : FsG} (a : NxtX X h g h1 g1) (b : NxtX X h1 g1 h2 g2) : NxtX X h g h2 g2 :=
  ⟨b.id.trans a.id, a.o.trans b.o fun i hi c => c.imp (fun c => (a.own i c).resolve_right (by omega)) (fun c => c), fun i c => (b.own i c).elim (a.own i) fun hi => .inr (Nat.le_trans a.o.next hi)⟩
/-- the blocks of one call of Append -/
structure B16 (g : FsG) (n : Int) (v : AV) (E : List AV) (nF nE nN cS cN id0 id : Nat) (h : H) : Prop where
  gF : h.get nF = .cells false 24 [.ptr g.id 0]
  gN : h.get nN = .cells false 3 [.int .i64 n]
  gE : ∃ x, h.get nE = .cells false 25 [.int .i64 x]
  gS : h.get cS = .cells false 31 [v]
  gC : h.get cN = .cells false 3 [.int .i64 (Int.ofNat 64)]
  g0 : h.get id0 = .defd true
  bE : h.base ≤ nE
  b0 : h.base ≤ id0
  bI : h.base ≤ id
structure Far (g : FsG) (nF nE nN cS cN id0 id : Nat) : Prop where
  all : ∀ j, (j = nF ∨ j = nE ∨ j = nN ∨ j = cS ∨ j = cN ∨ j = id0 ∨ j = id) → ¬ Own g j
  i1 : id ≠ nF ∧ id ≠ nE ∧ id ≠ nN ∧ id ≠ cS ∧ id ≠ cN ∧ id ≠ id0
  e1 : nE ≠ nF ∧ nE ≠ nN ∧ nE ≠ cS ∧ nE ≠ cN ∧ nE ≠ id0
theorem B16.only {g : FsG} {n : Int} {v : AV} {E : List AV} {nF nE nN cS cN id0 id : Nat} {h h' : H} {L : Nat → Prop} (q : B16 g n v E nF nE nN cS cN id0 id h) (o : Only L h h')
    (hL : ¬ L nF ∧ ¬ L nE ∧ ¬ L nN ∧ ¬ L cS ∧ ¬ L cN ∧ ¬ L id0) : B16 g n v E nF nE nN cS cN id0 id h' := by
  obtain ⟨x, gE⟩ := q.gE
  exact ⟨o.at q.gF rfl hL.1, o.at q.gN rfl hL.2.2.1, ⟨x, o.at gE rfl hL.2.1⟩, o.at q.gS rfl hL.2.2.2.1, o.at q.gC rfl hL.2.2.2.2.1, o.at q.g0 rfl hL.2.2.2.2.2, by rw [o.base]; exact q.bE, by rw [o.base]; exact q.b0, by rw [o.base]; exact q.bI⟩
/-- a round: a piece is written -/
theorem round16 {h : H} {g : FsG} {fs : Fs} {n : Int} {v w : AV} {p : List UInt8} {nF nE nN cS cN id0 id : Nat} {e0 e1 e2 e4 e5 e8 e9 e10 e11 e12 e13 e14 e15 e16 e17 e18 e19 e20 e21 e22 e23 e24 e25 e26 e27 e28 e29 e30 e31 e32 e33 e34 e35 e36 : AV} {k : AV → H → Prop} {N : Nat}
    (q : B16 g n w [e0, e1, e2, .ptr nF 0, e4, e5, .ptr nE 0, .ptr nN 0, e8, e9, e10, e11, e12, e13, e14, e15, e16, e17, e18, e19, e20, e21, e22, e23, e24, e25, e26, e27, e28, e29, e30, e31, e32, e33, e34, e35, e36] nF nE nN cS cN id0 id h) (gl : h.get id = Lp16 .ready none [e0, e1, e2, .ptr nF 0, e4, e5, .ptr nE 0, .ptr nN 0, e8, e9, e10, e11, e12, e13, e14, e15, e16, e17, e18, e19, e20, e21, e22, e23, e24, e25, e26, e27, e28, e29, e30, e31, e32, e33, e34, e35, e36]) (far : Far g nF nE nN cS cN id0 id) (f : FsAt h g fs) (hp : SlB h v p) (hN : fs.Fits N) (hl : N + (p.length + 72) ≤ mostRoom)
    (hk : ∀ h' g', FsAt h' g' (fs.pend ⟨0, [], [], n, p⟩).2 → NxtX (fun i => i = id ∨ i = nE) h g h' g' → (fs.pend ⟨0, [], [], n, p⟩).1 = 0 → B16 g n w [e0, e1, e2, .ptr nF 0, e4, e5, .ptr nE 0, .ptr nN 0, e8, e9, e10, e11, e12, e13, e14, e15, e16, e17, e18, e19, e20, e21, e22, e23, e24, e25, e26, e27, e28, e29, e30, e31, e32, e33, e34, e35, e36] nF nE nN cS cN id0 id h' → h'.get id = Lp16 .ready none [e0, e1, e2, .ptr nF 0, e4, e5, .ptr nE 0, .ptr nN 0, e8, e9, e10, e11, e12, e13, e14, e15, e16, e17, e18, e19, e20, e21, e22, e23, e24, e25, e26, e27, e28, e29, e30, e31, e32, e33, e34, e35, e36] → k (.bool true) h')
    (hk2 : ∀ h' g', FsAt h' g' (fs.pend ⟨0, [], [], n, p⟩).2 → NxtX (fun i => i = id ∨ i = nE) h g h' g' → (fs.pend ⟨0, [], [], n, p⟩).1 ≠ 0 → B16 g n w [e0, e1, e2, .ptr nF 0, e4, e5, .ptr nE 0, .ptr nN 0, e8, e9, e10, e11, e12, e13, e14, e15, e16, e17, e18, e19, e20, e21, e22, e23, e24, e25, e26, e27, e28, e29, e30, e31, e32, e33, e34, e35, e36] nF nE nN cS cN id0 id h' → h'.get nE = .cells false 25 [.int .i64 (fs.pend ⟨0, [], [], n, p⟩).1] → h'.get id = Lp16 .done (some .ret) [e0, e1, e2, .ptr nF 0, e4, e5, .ptr nE 0, .ptr nN 0, e8, e9, e10, e11, e12, e13, e14, e15, e16, e17, e18, e19, e20, e21, e22, e23, e24, e25, e26, e27, e28, e29, e30, e31, e32, e33, e34, e35, e36] → k (.bool false) h') : callK gY (.yield id) [v] h k := by
  refine yield16 gl q.bI fun h2 o2 n2 g2 => ?_
  have hI := far.all id (.inr (.inr (.inr (.inr (.inr (.inr rfl))))))
  have hE := far.all nE (.inr (.inl rfl))
  have i1 := far.i1
  have q2 := q.only o2 ⟨fun e => i1.1 e.symm, fun e => i1.2.1 e.symm, fun e => i1.2.2.1 e.symm, fun e => i1.2.2.2.1 e.symm, fun e => i1.2.2.2.2.1 e.symm, fun e => i1.2.2.2.2.2 e.symm⟩
  have f2 := f.only o2 fun i c e => hI (e ▸ c)
  rw [ldV_at q2.gF rfl, ldI_at q2.gN rfl]
  refine p42 (hp.only o2) f2.wf (by omega) fun v4 h3 r3 o3 => ?_
  have q3 := q2.only o3 ⟨_root_.id, _root_.id, _root_.id, _root_.id, _root_.id, _root_.id⟩
  have f3 := f2.only o3 fun _ _ => _root_.id
  have g3 := o3.at g2 rfl _root_.id
  refine ck_intro (reads_self (aLoad1_at q3.gN) (same_int _ _)) (ck_intro (reads_self (aLoad1_at q3.gF) (by simp [AV.same])) (ck_intro (SlB.ofRow r3).one ?_))
  refine p36 (s := ⟨0, [], [], n, p⟩) (u := v4) f3 (SlB.ofRow r3) (by have := hN.wait; omega) fun h5 g5 f5 nx => ?_
  have nf : ∀ j, (j = nF ∨ j = nE ∨ j = nN ∨ j = cS ∨ j = cN ∨ j = id0 ∨ j = id) → ¬ Own g j := far.all
  have q5' := q3.only nx.o ⟨nf _ (.inl rfl), nf _ (.inr (.inl rfl)), nf _ (.inr (.inr (.inl rfl))), nf _ (.inr (.inr (.inr (.inl rfl)))), nf _ (.inr (.inr (.inr (.inr (.inl rfl))))), nf _ (.inr (.inr (.inr (.inr (.inr (.inl rfl))))))⟩
  have g5l := nx.o.at g3 rfl hI
  have o23 : Only (fun i => i = id ∨ i = nE) h h3 := (o2.imp fun _ _ c => .inl c).trans o3 fun _ _ c => c.elim
  have nx5 : NxtX (fun i => i = id ∨ i = nE) h g h5 g5 := (NxtX.put g o23 fun _ c => c).trans (NxtX.of nx)
  have far5 : ∀ j, (j = nE ∨ j = id) → j < h3.next → ¬ Own g5 j := fun j hj hl c => by
    rcases nx.own j c with c | c
    · exact nf j (by rcases hj with rfl | rfl <;> simp) c
    · omega
  obtain ⟨x0, gE⟩ := q3.gE
  have lE : nE < h3.next := H.lt_of_live (by rw [gE]; rfl)
  have lI : id < h3.next := H.lt_of_live (by rw [g3]; rfl)
  rw [fB_eq]
  refine br_intro (fun h0 => ?_) fun h0 => ?_
  · have h0 : (fs.pend ⟨0, [], [], n, p⟩).1 ≠ 0 := eqI_false.1 (Am.not_true.1 h0)
    obtain ⟨x5, gE5⟩ := q5'.gE
    refine stV_r gE5 rfl rfl q5'.bE fun h8 o8 n8 g8 => ?_
    have g8l := o8.at g5l rfl fun e => i1.2.1 e
    refine setLoop_r g8l (by rw [o8.base]; exact q5'.bI) fun h9 o9 n9 g9 => ?_
    have o59 : Only (fun i => i = id ∨ i = nE) h5 h9 := (o8.imp fun _ _ c => .inr c).trans o9 fun _ _ c => .inl c
    have gE9 := o9.at g8 rfl fun e => i1.2.1 e.symm
    have f9 := f5.only o59 fun i c e => far5 i (by rcases e with e | e; exact .inr e; exact .inl e) (by rcases e with rfl | rfl; exact lI; exact lE) c
    have e1 := far.e1
    refine hk2 h9 g5 f9 (nx5.trans (NxtX.put g5 o59 fun _ c => c)) h0 ?_ gE9 g9
    exact ⟨o59.at q5'.gF rfl (by rintro (e | e); exact i1.1 e.symm; exact e1.1 e.symm), o59.at q5'.gN rfl (by rintro (e | e); exact i1.2.2.1 e.symm; exact e1.2.1 e.symm), ⟨_, gE9⟩,
      o59.at q5'.gS rfl (by rintro (e | e); exact i1.2.2.2.1 e.symm; exact e1.2.2.1 e.symm), o59.at q5'.gC rfl (by rintro (e | e); exact i1.2.2.2.2.1 e.symm; exact e1.2.2.2.1 e.symm), o59.at q5'.g0 rfl (by rintro (e | e); exact i1.2.2.2.2.2 e.symm; exact e1.2.2.2.2 e.symm),
      by rw [o59.base]; exact q5'.bE, by rw [o59.base]; exact q5'.b0, by rw [o59.base]; exact q5'.bI⟩
  · have h0 : (fs.pend ⟨0, [], [], n, p⟩).1 = 0 := eqI_true.1 (not_false'.1 h0)
    refine setLoop_r g5l q5'.bI fun h9 o9 n9 g9 => ?_
    have f9 := f5.only o9 fun i c e => far5 i (.inr e) (by rw [e]; exact lI) c
    exact hk h9 g5 f9 (nx5.trans (NxtX.put g5 o9 fun _ c => .inl c)) h0 (q5'.only o9 ⟨fun e => i1.1 e.symm, fun e => i1.2.1 e.symm, fun e => i1.2.2.1 e.symm, fun e => i1.2.2.2.1 e.symm, fun e => i1.2.2.2.2.1 e.symm, fun e => i1.2.2.2.2.2 e.symm⟩) g9
end Go.Proofs.Ytiejkbmobmgdkaa

/- Append: the loop over the pieces. No condition. -/
namespace Go.Am
open Go
set_option linter.all false
theorem puts_end {n : Int} {b : List UInt8} {i : Nat} (h : b.length ≤ i) (c : Nat) (fs : Fs) : fs.puts n b c i = (0, fs) := by
  cases c with
  | zero => rfl
  | succ c => show (if i < b.length then _ else _) = _; rw [if_neg (by omega)]
theorem take_min (b : List UInt8) (i : Nat) : (b.drop i).take (min 64 (b.length - i)) = (b.drop i).take 64 := by
  by_cases h : 64 ≤ b.length - i
  · rw [Nat.min_eq_left h]
  · rw [Nat.min_eq_right (by omega), List.take_of_length_le (by simp), List.take_of_length_le (by simp; omega)]
end Go.Am
namespace Go.Proofs.Ytiejkbmobmgdkaa
open Go Go.Am
set_option linter.all false
set_option maxRecDepth 100000
theorem spX_some (v : AV) (k : AV → Prop) : spX (some v) k = k v := rfl
theorem gY_is : gamI J0 [] [] (denR ty (gamI J0 [(27, g27'), (36, g36), (39, g39), (41, g41), (42, g42)] [] noCode)) = gY := by
  unfold gY g27' g36 g39 g41 g42; rfl
/-- where the loop stands -/
structure I16 (h0 : H) (g0 : FsG) (fs0 : Fs) (n : Int) (w : AV) (b : List UInt8) (N : Nat) (E : List AV) (nF nE nN cS cN id0 id : Nat) (m : Nat) (v : AV × AV × AV × AV × Unit) (d : List Dfr) (h : H) (i c : Nat) (fs : Fs) (g : FsG) : Prop where
  m : m = b.length + 64 - i
  le : i ≤ b.length + 63
  v : v = (.yield id, .ptr cS 0, .ptr cN 0, .int .i64 (Int.ofNat i), ())
  d : d = []
  cl : b.length ≤ c + i
  f : FsAt h g fs
  nx : NxtX (fun i => i = id ∨ i = nE) h0 g0 h g
  q : B16 g0 n w E nF nE nN cS cN id0 id h
  gl : h.get id = Lp16 .ready none E
  fit : fs.Fits (N + 73 * i)
  eq : fs0.puts n b b.length 0 = fs.puts n b c i
theorem loop16 {h : H} {g : FsG} {fs : Fs} {n : Int} {w : AV} {b : List UInt8} {nF nE nN cS cN id0 id : Nat} {e0 e1 e2 e4 e5 e8 e9 e10 e11 e12 e13 e14 e15 e16 e17 e18 e19 e20 e21 e22 e23 e24 e25 e26 e27 e28 e29 e30 e31 e32 e33 e34 e35 e36 : AV} {k : H → Prop} {N : Nat}
    (q : B16 g n w [e0, e1, e2, .ptr nF 0, e4, e5, .ptr nE 0, .ptr nN 0, e8, e9, e10, e11, e12, e13, e14, e15, e16, e17, e18, e19, e20, e21, e22, e23, e24, e25, e26, e27, e28, e29, e30, e31, e32, e33, e34, e35, e36] nF nE nN cS cN id0 id h) (gl : h.get id = Lp16 .ready none [e0, e1, e2, .ptr nF 0, e4, e5, .ptr nE 0, .ptr nN 0, e8, e9, e10, e11, e12, e13, e14, e15, e16, e17, e18, e19, e20, e21, e22, e23, e24, e25, e26, e27, e28, e29, e30, e31, e32, e33, e34, e35, e36]) (far : Far g nF nE nN cS cN id0 id) (hlt : id < h.next ∧ nE < h.next ∧ nF < h.next ∧ nN < h.next ∧ cS < h.next ∧ cN < h.next ∧ id0 < h.next) (f : FsAt h g fs) (hw : SlB h w b) (hN : fs.Fits N) (hl : N + 73 * (b.length + 64) ≤ mostRoom)
    (hk : ∀ h' g' fs', FsAt h' g' fs' → NxtX (fun i => i = id ∨ i = nE) h g h' g' → B16 g n w [e0, e1, e2, .ptr nF 0, e4, e5, .ptr nE 0, .ptr nN 0, e8, e9, e10, e11, e12, e13, e14, e15, e16, e17, e18, e19, e20, e21, e22, e23, e24, e25, e26, e27, e28, e29, e30, e31, e32, e33, e34, e35, e36] nF nE nN cS cN id0 id h' →
      ((fs.puts n b b.length 0 = (0, fs') ∧ h'.get id = Lp16 .ready none [e0, e1, e2, .ptr nF 0, e4, e5, .ptr nE 0, .ptr nN 0, e8, e9, e10, e11, e12, e13, e14, e15, e16, e17, e18, e19, e20, e21, e22, e23, e24, e25, e26, e27, e28, e29, e30, e31, e32, e33, e34, e35, e36]) ∨ (∃ x, x ≠ 0 ∧ fs.puts n b b.length 0 = (x, fs') ∧ h'.get nE = .cells false 25 [.int .i64 x] ∧ h'.get id = Lp16 .done (some .ret) [e0, e1, e2, .ptr nF 0, e4, e5, .ptr nE 0, .ptr nN 0, e8, e9, e10, e11, e12, e13, e14, e15, e16, e17, e18, e19, e20, e21, e22, e23, e24, e25, e26, e27, e28, e29, e30, e31, e32, e33, e34, e35, e36])) → k h') :
    s50_16 (.yield id) (.ptr cS 0) (.ptr cN 0) h k := by
  have hmost : mostRoom = 140737488355328 := rfl
  show s50G J0 _ _ _ _ h k
  unfold s50G
  refine lp_rule (fun m v d h' => ∃ i c fs' g', I16 h g fs n w b N [e0, e1, e2, .ptr nF 0, e4, e5, .ptr nE 0, .ptr nN 0, e8, e9, e10, e11, e12, e13, e14, e15, e16, e17, e18, e19, e20, e21, e22, e23, e24, e25, e26, e27, e28, e29, e30, e31, e32, e33, e34, e35, e36] nF nE nN cS cN id0 id m v d h' i c fs' g') (fun m self v d hc inv next => ?_) (n := b.length + 64) (by show _ < 4611686018427387904; omega)
    ⟨0, b.length, fs, g, rfl, by omega, rfl, rfl, by omega, f, ⟨rfl, Only.refl _ _, fun _ => .inl⟩, q, gl, hN, rfl⟩
  obtain ⟨i, c, fs', g', I⟩ := inv
  obtain ⟨rfl, hle, rfl, rfl, hc1, fc, nx, qc, glc, fit, eq⟩ := I
  dsimp only
  rw [ldV_at qc.gS rfl]
  have hwc := hw.only nx.o
  rw [hwc.len, asI_int, fB_eq]
  refine br_intro (fun h0 => ?_) fun h0 => ?_
  · have hi := ltI_nat.1 h0
    rw [ldI_at qc.gC rfl, ldV_at qc.gS rfl]
    refine hwc.rest hi fun v11 h11 => ?_
    have em : aMin (.int .i64 (Int.ofNat 64)) (.int .i64 (Int.ofNat (b.length - i))) = some (.int .i64 (Int.ofNat (min 64 (b.length - i)))) := by
      unfold aMin
      show some (AV.int .i64 (Bool.rec (Int.ofNat 64) (Int.ofNat (b.length - i)) (ltI (Int.ofNat (b.length - i)) (Int.ofNat 64)))) = _
      by_cases hm : b.length - i < 64
      · rw [ltI_nat.2 hm, Nat.min_eq_right (by omega)]
      · rw [ltI_nat'.2 (by omega), Nat.min_eq_left (by omega)]
    rw [h11, em, op'_some, asI_int, ldV_at qc.gS rfl, asI_int]
    have ea : wrapF .i64 (Int.add (Int.ofNat i) (Int.ofNat (min 64 (b.length - i)))) = Int.ofNat (i + min 64 (b.length - i)) := by
      show wrapF .i64 (Int.ofNat (i + min 64 (b.length - i))) = _
      exact wrapF_nat (by show _ < 9223372036854775808; omega)
    rw [ea, fI_eq, asI_int, ea, fI_eq]
    obtain ⟨v20, part1, hv20⟩ := hwc.part (i := i) (m := min 64 (b.length - i)) (by omega) (by omega) (kk := .i64) (k2 := .i64) (k3 := .i64)
    rw [part1]
    rw [spX_some, gY_is]
    rw [take_min] at hv20
    have hpl : ((b.drop i).take 64).length ≤ 64 := by simp; omega
    have farc : Far g' nF nE nN cS cN id0 id := ⟨fun j hj cj => by
      rcases nx.own j cj with c1 | c1
      · exact far.all j hj c1
      · rcases hj with rfl | rfl | rfl | rfl | rfl | rfl | rfl <;> omega, far.i1, far.e1⟩
    have qc' : B16 g' n w [e0, e1, e2, .ptr nF 0, e4, e5, .ptr nE 0, .ptr nN 0, e8, e9, e10, e11, e12, e13, e14, e15, e16, e17, e18, e19, e20, e21, e22, e23, e24, e25, e26, e27, e28, e29, e30, e31, e32, e33, e34, e35, e36] nF nE nN cS cN id0 id hc := ⟨by rw [nx.id]; exact qc.gF, qc.gN, qc.gE, qc.gS, qc.gC, qc.g0, qc.bE, qc.b0, qc.bI⟩
    obtain ⟨c, rfl⟩ : ∃ c', c = c' + 1 := ⟨c - 1, by omega⟩
    have ep : fs'.puts n b (c + 1) i = (if (fs'.pend ⟨0, [], [], n, (b.drop i).take 64⟩).1 = 0 then Fs.puts n b c (i + 64) (fs'.pend ⟨0, [], [], n, (b.drop i).take 64⟩).2 else fs'.pend ⟨0, [], [], n, (b.drop i).take 64⟩) := by
      show (if i < b.length then _ else _) = _
      rw [if_pos hi]
    have back : ∀ {hx : H}, B16 g' n w [e0, e1, e2, .ptr nF 0, e4, e5, .ptr nE 0, .ptr nN 0, e8, e9, e10, e11, e12, e13, e14, e15, e16, e17, e18, e19, e20, e21, e22, e23, e24, e25, e26, e27, e28, e29, e30, e31, e32, e33, e34, e35, e36] nF nE nN cS cN id0 id hx → B16 g n w [e0, e1, e2, .ptr nF 0, e4, e5, .ptr nE 0, .ptr nN 0, e8, e9, e10, e11, e12, e13, e14, e15, e16, e17, e18, e19, e20, e21, e22, e23, e24, e25, e26, e27, e28, e29, e30, e31, e32, e33, e34, e35, e36] nF nE nN cS cN id0 id hx := fun qx => ⟨by rw [← nx.id]; exact qx.gF, qx.gN, qx.gE, qx.gS, qx.gC, qx.g0, qx.bE, qx.b0, qx.bI⟩
    refine round16 qc' glc farc fc hv20 fit (by omega) (fun hd gd fd nd e0 qd gld => ?_) fun hd gd fd nd e0 qd gEd gld => ?_
    · rw [asB_bool, fB_eq]
      show br false _ _
      rw [br_f, ldI_at qd.gC rfl, asI_int]
      have e64 : wrapF .i64 (Int.add (Int.ofNat i) (Int.ofNat 64)) = Int.ofNat (i + 64) := by
        show wrapF .i64 (Int.ofNat (i + 64)) = _
        exact wrapF_nat (by show _ < 9223372036854775808; omega)
      rw [e64, fI_eq]
      refine next (b.length + 64 - (i + 64)) _ _ _ (by omega) ⟨i + 64, c, _, gd, rfl, by omega, rfl, rfl, by omega, fd, nx.trans nd, back qd, gld, ((fit.pend _).mono (by show N + 73 * i + (((b.drop i).take 64).length + 72) ≤ _; omega)), ?_⟩
      rw [eq, ep, if_pos e0]
    · rw [asB_bool, fB_eq]
      show br true _ _
      rw [br_t]
      show k hd
      refine hk hd gd _ fd (nx.trans nd) (back qd) (.inr ⟨_, e0, ?_, gEd, gld⟩)
      rw [eq, ep, if_neg e0]
  · have hi := ltI_nat'.1 h0
    show k hc
    exact hk hc g' fs' fc nx qc (.inl ⟨by rw [eq, puts_end hi], glc⟩)
end Go.Proofs.Ytiejkbmobmgdkaa
