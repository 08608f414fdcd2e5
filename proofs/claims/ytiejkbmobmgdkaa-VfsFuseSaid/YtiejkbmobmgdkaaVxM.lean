/- Append: the loop over the pieces. No condition. -/
import Derived.Test.YtiejkbmobmgdkaaVxL
namespace Go.Proofs.Ytiejkbmobmgdkaa
open Go Go.Am
set_option linter.all false
set_option maxRecDepth 100000
/-- what a call leaves that writes the blocks of X, too -/
structure NxtX (X : Nat → Prop) (h : H) (g : FsG) (h' : H) (g' : FsG) : Prop where
  id : g'.id = g.id
  o : Only (fun i => Own g i ∨ X i) h h'
  own : ∀ i, Own g' i → Own g i ∨ h.next ≤ i
theorem NxtX.of {X : Nat → Prop} {h h' : H} {g g' : FsG} (n : Nxt h g h' g') : NxtX X h g h' g' := ⟨n.id, n.o.imp fun _ _ c => .inl c, n.own⟩
theorem NxtX.put {X : Nat → Prop} {h h' : H} (g : FsG) {L : Nat → Prop} (o : Only L h h') (hl : ∀ i, L i → X i) : NxtX X h g h' g := ⟨rfl, o.imp fun i _ c => .inr (hl i c), fun _ => .inl⟩
theorem NxtX.trans {X : Nat → Prop} {h h1 h2 : H} {g g1 g2 : FsG} (a : NxtX X h g h1 g1) (b : NxtX X h1 g1 h2 g2) : NxtX X h g h2 g2 :=
  ⟨b.id.trans a.id, a.o.trans b.o fun i hi c => c.imp (fun c => (a.own i c).resolve_right (by omega)) (fun c => c), fun i c => (b.own i c).elim (a.own i) fun hi => .inr (Nat.le_trans a.o.next hi)⟩
/-- the blocks of one call of Append -/
structure B16 (g : FsG) (n : Int) (v : AV) (E : List AV) (nF nE nN cS cN id0 id : Nat) (h : H) : Prop where
  gF : h.get nF = .cells false 24 [.ptr g.id 0]
  gN : h.get nN = .cells false 3 [.int .i64 n]
  gE : ∃ x, h.get nE = .cells false 25 [.int .i64 x]
  gS : h.get cS = .cells false 31 [v]
  gC : h.get cN = .cells false 3 [.int .i64 (Int.ofNat 64)]
  g0 : h.get id0 = .defd true
  bE : h.base ≤ nE
  b0 : h.base ≤ id0
  bI : h.base ≤ id
structure Far (g : FsG) (nF nE nN cS cN id0 id : Nat) : Prop where
  all : ∀ j, (j = nF ∨ j = nE ∨ j = nN ∨ j = cS ∨ j = cN ∨ j = id0 ∨ j = id) → ¬ Own g j
  i1 : id ≠ nF ∧ id ≠ nE ∧ id ≠ nN ∧ id ≠ cS ∧ id ≠ cN ∧ id ≠ id0
  e1 : nE ≠ nF ∧ nE ≠ nN ∧ nE ≠ cS ∧ nE ≠ cN ∧ nE ≠ id0
theorem B16.only {g : FsG} {n : Int} {v : AV} {E : List AV} {nF nE nN cS cN id0 id : Nat} {h h' : H} {L : Nat → Prop} (q : B16 g n v E nF nE nN cS cN id0 id h) (o : Only L h h')
    (hL : ¬ L nF ∧ ¬ L nE ∧ ¬ L nN ∧ ¬ L cS ∧ ¬ L cN ∧ ¬ L id0) : B16 g n v E nF nE nN cS cN id0 id h' := by
  obtain ⟨x, gE⟩ := q.gE
  exact ⟨o.at q.gF rfl hL.1, o.at q.gN rfl hL.2.2.1, ⟨x, o.at gE rfl hL.2.1⟩, o.at q.gS rfl hL.2.2.2.1, o.at q.gC rfl hL.2.2.2.2.1, o.at q.g0 rfl hL.2.2.2.2.2, by rw [o.base]; exact q.bE, by rw [o.base]; exact q.b0, by rw [o.base]; exact q.bI⟩
/-- a round: a piece is written -/
theorem round16 {h : H} {g : FsG} {fs : Fs} {n : Int} {v w : AV} {p : List UInt8} {nF nE nN cS cN id0 id : Nat} {e0 e1 e2 e4 e5 e8 e9 e10 e11 e12 e13 e14 e15 e16 e17 e18 e19 e20 e21 e22 e23 e24 e25 e26 e27 e28 e29 e30 e31 e32 e33 e34 e35 e36 : AV} {k : AV → H → Prop} {N : Nat}
    (q : B16 g n w [e0, e1, e2, .ptr nF 0, e4, e5, .ptr nE 0, .ptr nN 0, e8, e9, e10, e11, e12, e13, e14, e15, e16, e17, e18, e19, e20, e21, e22, e23, e24, e25, e26, e27, e28, e29, e30, e31, e32, e33, e34, e35, e36] nF nE nN cS cN id0 id h) (gl : h.get id = Lp16 .ready none [e0, e1, e2, .ptr nF 0, e4, e5, .ptr nE 0, .ptr nN 0, e8, e9, e10, e11, e12, e13, e14, e15, e16, e17, e18, e19, e20, e21, e22, e23, e24, e25, e26, e27, e28, e29, e30, e31, e32, e33, e34, e35, e36]) (far : Far g nF nE nN cS cN id0 id) (f : FsAt h g fs) (hp : SlB h v p) (hN : fs.Fits N) (hl : N + (p.length + 72) ≤ mostRoom)
    (hk : ∀ h' g', FsAt h' g' (fs.pend ⟨0, [], [], n, p⟩).2 → NxtX (fun i => i = id ∨ i = nE) h g h' g' → (fs.pend ⟨0, [], [], n, p⟩).1 = 0 → B16 g n w [e0, e1, e2, .ptr nF 0, e4, e5, .ptr nE 0, .ptr nN 0, e8, e9, e10, e11, e12, e13, e14, e15, e16, e17, e18, e19, e20, e21, e22, e23, e24, e25, e26, e27, e28, e29, e30, e31, e32, e33, e34, e35, e36] nF nE nN cS cN id0 id h' → h'.get id = Lp16 .ready none [e0, e1, e2, .ptr nF 0, e4, e5, .ptr nE 0, .ptr nN 0, e8, e9, e10, e11, e12, e13, e14, e15, e16, e17, e18, e19, e20, e21, e22, e23, e24, e25, e26, e27, e28, e29, e30, e31, e32, e33, e34, e35, e36] → k (.bool true) h')
    (hk2 : ∀ h' g', FsAt h' g' (fs.pend ⟨0, [], [], n, p⟩).2 → NxtX (fun i => i = id ∨ i = nE) h g h' g' → (fs.pend ⟨0, [], [], n, p⟩).1 ≠ 0 → B16 g n w [e0, e1, e2, .ptr nF 0, e4, e5, .ptr nE 0, .ptr nN 0, e8, e9, e10, e11, e12, e13, e14, e15, e16, e17, e18, e19, e20, e21, e22, e23, e24, e25, e26, e27, e28, e29, e30, e31, e32, e33, e34, e35, e36] nF nE nN cS cN id0 id h' → h'.get nE = .cells false 25 [.int .i64 (fs.pend ⟨0, [], [], n, p⟩).1] → h'.get id = Lp16 .done (some .ret) [e0, e1, e2, .ptr nF 0, e4, e5, .ptr nE 0, .ptr nN 0, e8, e9, e10, e11, e12, e13, e14, e15, e16, e17, e18, e19, e20, e21, e22, e23, e24, e25, e26, e27, e28, e29, e30, e31, e32, e33, e34, e35, e36] → k (.bool false) h') : callK gY (.yield id) [v] h k := by
  refine yield16 gl q.bI fun h2 o2 n2 g2 => ?_
  have hI := far.all id (.inr (.inr (.inr (.inr (.inr (.inr rfl))))))
  have hE := far.all nE (.inr (.inl rfl))
  have i1 := far.i1
  have q2 := q.only o2 ⟨fun e => i1.1 e.symm, fun e => i1.2.1 e.symm, fun e => i1.2.2.1 e.symm, fun e => i1.2.2.2.1 e.symm, fun e => i1.2.2.2.2.1 e.symm, fun e => i1.2.2.2.2.2 e.symm⟩
  have f2 := f.only o2 fun i c e => hI (e ▸ c)
  rw [ldV_at q2.gF rfl, ldI_at q2.gN rfl]
  refine p42 (hp.only o2) f2.wf (by omega) fun v4 h3 r3 o3 => ?_
  have q3 := q2.only o3 ⟨_root_.id, _root_.id, _root_.id, _root_.id, _root_.id, _root_.id⟩
  have f3 := f2.only o3 fun _ _ => _root_.id
  have g3 := o3.at g2 rfl _root_.id
  refine ck_intro (reads_self (aLoad1_at q3.gN) (same_int _ _)) (ck_intro (reads_self (aLoad1_at q3.gF) (by simp [AV.same])) (ck_intro (SlB.ofRow r3).one ?_))
  refine p36 (s := ⟨0, [], [], n, p⟩) (u := v4) f3 (SlB.ofRow r3) (by have := hN.wait; omega) fun h5 g5 f5 nx => ?_
  have nf : ∀ j, (j = nF ∨ j = nE ∨ j = nN ∨ j = cS ∨ j = cN ∨ j = id0 ∨ j = id) → ¬ Own g j := far.all
  have q5' := q3.only nx.o ⟨nf _ (.inl rfl), nf _ (.inr (.inl rfl)), nf _ (.inr (.inr (.inl rfl))), nf _ (.inr (.inr (.inr (.inl rfl)))), nf _ (.inr (.inr (.inr (.inr (.inl rfl))))), nf _ (.inr (.inr (.inr (.inr (.inr (.inl rfl))))))⟩
  have g5l := nx.o.at g3 rfl hI
  have o23 : Only (fun i => i = id ∨ i = nE) h h3 := (o2.imp fun _ _ c => .inl c).trans o3 fun _ _ c => c.elim
  have nx5 : NxtX (fun i => i = id ∨ i = nE) h g h5 g5 := (NxtX.put g o23 fun _ c => c).trans (NxtX.of nx)
  have far5 : ∀ j, (j = nE ∨ j = id) → j < h3.next → ¬ Own g5 j := fun j hj hl c => by
    rcases nx.own j c with c | c
    · exact nf j (by rcases hj with rfl | rfl <;> simp) c
    · omega
  obtain ⟨x0, gE⟩ := q3.gE
  have lE : nE < h3.next := H.lt_of_live (by rw [gE]; rfl)
  have lI : id < h3.next := H.lt_of_live (by rw [g3]; rfl)
  rw [fB_eq]
  refine br_intro (fun h0 => ?_) fun h0 => ?_
  · have h0 : (fs.pend ⟨0, [], [], n, p⟩).1 ≠ 0 := eqI_false.1 (Am.not_true.1 h0)
    obtain ⟨x5, gE5⟩ := q5'.gE
    refine stV_r gE5 rfl rfl q5'.bE fun h8 o8 n8 g8 => ?_
    have g8l := o8.at g5l rfl fun e => i1.2.1 e
    refine setLoop_r g8l (by rw [o8.base]; exact q5'.bI) fun h9 o9 n9 g9 => ?_
    have o59 : Only (fun i => i = id ∨ i = nE) h5 h9 := (o8.imp fun _ _ c => .inr c).trans o9 fun _ _ c => .inl c
    have gE9 := o9.at g8 rfl fun e => i1.2.1 e.symm
    have f9 := f5.only o59 fun i c e => far5 i (by rcases e with e | e; exact .inr e; exact .inl e) (by rcases e with rfl | rfl; exact lI; exact lE) c
    have e1 := far.e1
    refine hk2 h9 g5 f9 (nx5.trans (NxtX.put g5 o59 fun _ c => c)) h0 ?_ gE9 g9
    exact ⟨o59.at q5'.gF rfl (by rintro (e | e); exact i1.1 e.symm; exact e1.1 e.symm), o59.at q5'.gN rfl (by rintro (e | e); exact i1.2.2.1 e.symm; exact e1.2.1 e.symm), ⟨_, gE9⟩,
      o59.at q5'.gS rfl (by rintro (e | e); exact i1.2.2.2.1 e.symm; exact e1.2.2.1 e.symm), o59.at q5'.gC rfl (by rintro (e | e); exact i1.2.2.2.2.1 e.symm; exact e1.2.2.2.1 e.symm), o59.at q5'.g0 rfl (by rintro (e | e); exact i1.2.2.2.2.2 e.symm; exact e1.2.2.2.2 e.symm),
      by rw [o59.base]; exact q5'.bE, by rw [o59.base]; exact q5'.b0, by rw [o59.base]; exact q5'.bI⟩
  · have h0 : (fs.pend ⟨0, [], [], n, p⟩).1 = 0 := eqI_true.1 (not_false'.1 h0)
    refine setLoop_r g5l q5'.bI fun h9 o9 n9 g9 => ?_
    have f9 := f5.only o9 fun i c e => far5 i (.inr e) (by rw [e]; exact lI) c
    exact hk h9 g5 f9 (nx5.trans (NxtX.put g5 o9 fun _ c => .inl c)) h0 (q5'.only o9 ⟨fun e => i1.1 e.symm, fun e => i1.2.1 e.symm, fun e => i1.2.2.1 e.symm, fun e => i1.2.2.2.1 e.symm, fun e => i1.2.2.2.2.1 e.symm, fun e => i1.2.2.2.2.2 e.symm⟩) g9
end Go.Proofs.Ytiejkbmobmgdkaa
