/- Append. No condition. -/
import Derived.Test.YtiejkbmobmgdkaaVxN
namespace Go.Proofs.Ytiejkbmobmgdkaa
open Go Go.Am
set_option linter.all false
set_option maxRecDepth 100000
theorem p41 {h : H} {v : AV} {k : AV → H → Prop} (hv : isOne v = true) (hk : ∀ h', Only noL h h' → h'.next = h.next + 2 → h'.get h.next = .cells false 31 [v] → h'.get (h.next + 1) = .cells false 3 [.int .i64 (Int.ofNat 64)] → k (.func (.func 50) [] [.ptr h.next 0, .ptr (h.next + 1) 0]) h') : s41 v (Int.ofNat 64) h k := by
  show s41G J0 s50 _ _ h k
  unfold s41G
  refine ck_intro hv (push_r fun h2 o2 n2 g2 => push_r fun h4 o4 n4 g4 => ?_)
  rw [jd_is, ldI_at g4 rfl, fB_eq]
  show br false _ _
  rw [br_f]
  have := hk h4 (o2.trans o4 fun _ _ => id) (by omega) (o4.at g2 rfl id) (by rw [← n2]; exact g4)
  rw [← n2] at this
  exact this
theorem leave_coll16 {G : Gam} {id : Nat} {h : H} {k : H → Prop} (g : h.get id = .defd true) (hb : h.base ≤ id) (hk : ∀ h', Only (· = id) h h' → h'.get id = .defd false → k h') : leaveK G [.coll id] h k := by
  unfold leaveK
  rw [g]
  show putK id (.defd false) h fun h => leaveK G [] h k
  refine put_r g rfl (by intros; intro c; cases c) hb fun h' o n g' => ?_
  exact hk h' o g'
theorem it_at {J : Joins} {l : List (Nat × Fun)} {cd : Code → Ks → List AV → List Dfr → H → Prop} {c : AV → AV → AV → H → (H → Prop) → Prop} {i : Nat} {a b : AV} {h : H} {K : AV → H → Prop} : (gamI J l [(50, w50 c)] cd).it 50 ([] ++ (.yield i :: [a, b])) h K = c (.yield i) a b h fun h => K (.tuple []) h := rfl
theorem endR_none16 {id0 id1 : Nat} {N R : List Dfr → H → Prop} {X : Nat → List Dfr → H → Prop} {ds : List Dfr} {h : H} {ps : List Nat} {a b : Code} {e : List AV} (g : h.get id1 = .loop .ready none ps a b e) : endR id0 id1 N R X ds h = setLoop id1 .exhausted none h fun h' => N (.coll id0 :: ds) h' := by
  unfold endR
  rw [g]
theorem endR_ret16 {id0 id1 : Nat} {N R : List Dfr → H → Prop} {X : Nat → List Dfr → H → Prop} {ds : List Dfr} {h : H} {ps : List Nat} {a b : Code} {e : List AV} (g : h.get id1 = .loop .done (some .ret) ps a b e) : endR id0 id1 N R X ds h = setLoop id1 .exhausted (some .ret) h fun h' => R (.coll id0 :: ds) h' := by
  unfold endR
  rw [g]
theorem rf_at {G : Gam} {f : Nat} {first cap : List AV} {ps : List Nat} {c : Code × Code} {env : List AV} {h : H} {k : Nat → Nat → H → Prop} : rfK G (.func (.func f) first cap) ps c env h k = pushK (.defd true) h fun id0 h => pushK (.loop .ready none ps c.1 c.2 env) h fun id1 h => G.it f (first ++ (.yield id1 :: cap)) h fun _ h => k id0 id1 h := rfl
theorem p16 {h : H} {g : FsG} {fs : Fs} {s b : List UInt8} {v : AV} {k : Int → H → Prop} {N : Nat} (f : FsAt h g fs) (hv : SlB h v b) (hN : fs.Fits N) (hl : N + 73 * (b.length + 64) ≤ mostRoom) (hn : fs.held.names.length ≤ 1000000)
    (hk : ∀ h' g', FsAt h' g' (fs.append s b).2 → Nxt h g h' g' → k (fs.append s b).1 h') : s16 (.ptr g.id 0) (Str.of s) v h k := by
  have fit : fs.Fits mostRoom := hN.mono (by omega)
  show s16G J0 s27' s36 s39 s41 s42 s50_16 _ _ _ h k
  unfold s16G
  refine ck_intro rfl (push_r fun h2 o2 n2 g2 => push_r fun h4 o4 n4 g4 => ?_)
  have o04 := o2.trans o4 fun _ _ => id
  have f4 := f.only o04 fun _ _ => id
  rw [ldV_at (o4.at g2 rfl id) rfl]
  refine p39 f4 fit fun h6 f6 o6 => ?_
  refine push_r fun h10 o10 n10 g10 => ?_
  refine stV_r g10 rfl rfl (by rw [o10.base]; exact f6.wf) fun h11 o11 n11 g11 => ?_
  have o610 : Only noL h6 h11 := o10.trans o11 fun i hi e => by omega
  have o011 := (o04.trans o6 fun _ _ => id).trans o610 fun _ _ => id
  have f11 := f.only o011 fun _ _ => id
  have gF : h11.get h.next = .cells false 24 [.ptr g.id 0] := o610.at (o6.at (o4.at g2 rfl id) rfl id) rfl id
  have gE : h11.get h2.next = .cells false 25 [.int .i64 0] := o610.at (o6.at g4 rfl id) rfl id
  have l6 := o6.next
  have wf := f.wf
  have bE : h11.base ≤ h2.next := by rw [o011.base]; omega
  rw [fB_eq]
  refine br_intro (fun h0 => ?_) fun h0 => ?_
  · have h0 : (fs.file s).2 ≠ 0 := eqI_false.1 (Am.not_true.1 h0)
    have : fs.append s b = ((fs.file s).2, fs) := by unfold Fs.append; rw [if_pos h0]
    rw [this] at hk
    refine stV_r gE rfl rfl bE fun h13 o13 n13 g13 => ?_
    rw [ldI_at g13 rfl]
    have o := o011.trans o13 fun i hi e => by omega
    exact hk h13 g (f.only o fun _ _ => id) (Nxt.pure g o)
  · have h0 : (fs.file s).2 = 0 := eqI_true.1 (not_false'.1 h0)
    rw [hv.len, ldV_at gF rfl]
    refine p27 f11 fit hn fun h17 f17 o17 => ?_
    have o017 := o011.trans o17 fun _ _ => id
    have gE17 := o17.at gE rfl id
    have gF17 := o17.at gF rfl id
    have gN17 := o17.at g11 rfl id
    have l17 := o17.next
    rw [fB_eq]
    refine br_intro (fun h1 => ?_) fun h1 => ?_
    · have h1 : fs.space < Int.ofNat b.length := ltI_true.1 h1
      have : fs.append s b = (8, fs) := by unfold Fs.append; rw [if_neg (by rw [h0]; simp), if_pos h1]
      rw [this] at hk
      refine stV_r gE17 rfl rfl (by rw [o17.base]; exact bE) fun h20 o20 n20 g20 => ?_
      rw [ldI_at g20 rfl]
      have o := o017.trans o20 fun i hi e => by omega
      exact hk h20 g (f.only o fun _ _ => id) (Nxt.pure g o)
    · have h1 : ¬ fs.space < Int.ofNat b.length := Int.not_lt.2 (ltI_false.1 h1)
      have ea : fs.append s b = fs.puts (fs.file s).1 b b.length 0 := by unfold Fs.append; rw [if_neg (by rw [h0]; simp), if_neg h1]
      rw [ea] at hk
      rw [jd_is]
      refine p41 hv.one fun h29 o29 n29 gS gC => ?_
      rw [rf_at]
      refine push_r fun h30 o30 n30 g30 => push_r fun h31 o31 n31 g31 => ?_
      have o2931 := o30.trans o31 fun _ _ => id
      have o1731 := o29.trans o2931 fun _ _ => id
      have o031 := o017.trans o1731 fun _ _ => id
      have f31 := f.only o031 fun _ _ => id
      have bb : h31.base = h.base := o031.base
      have lg : ∀ j, h.next ≤ j → ¬ Own g j := fun j hj c => by have := Own.live f c; omega
      rw [it_at]
      refine loop16 (e0 := (AV.ptr g.id 0)) (e1 := (AV.str (Str.of s))) (e2 := v) (e4 := AV.junk) (e5 := AV.junk) (e8 := (AV.int .i64 (fs.file s).2)) (e9 := AV.junk) (e10 := AV.junk) (e11 := (AV.tuple [(AV.int .i64 (fs.file s).1), (AV.int .i64 (fs.file s).2)])) (e12 := (AV.ptr g.id 0)) (e13 := (AV.str (Str.of s))) (e14 := (AV.tuple [(AV.int .i64 (fs.file s).1), (AV.int .i64 (fs.file s).2)])) (e15 := (AV.int .i64 (fs.file s).1)) (e16 := (AV.int .i64 (fs.file s).2)) (e17 := (AV.int .i64 (fs.file s).2)) (e18 := (AV.bool (Bool.not (eqI (fs.file s).2 (Int.ofNat 0))))) (e19 := AV.junk) (e20 := v) (e21 := (AV.int .i64 (Int.ofNat b.length))) (e22 := (AV.ptr g.id 0)) (e23 := (AV.int .i64 fs.space)) (e24 := (AV.bool (ltI fs.space (Int.ofNat b.length)))) (e25 := v) (e26 := (AV.func (.func 50) [] [AV.ptr h17.next 0, AV.ptr (h17.next + 1) 0])) (e27 := AV.junk) (e28 := AV.junk) (e29 := AV.junk) (e30 := AV.junk) (e31 := AV.junk) (e32 := AV.junk) (e33 := AV.junk) (e34 := AV.junk) (e35 := AV.junk) (e36 := AV.junk) (w := v) (b := b) (n := (fs.file s).1) (nF := h.next) (nE := h2.next) (nN := h6.next) (cS := h17.next) (cN := h17.next + 1) (id0 := h29.next) (id := h30.next) (g := g)
        ⟨o1731.at gF17 rfl id, o1731.at gN17 rfl id, ⟨0, o1731.at gE17 rfl id⟩, o2931.at gS rfl id, o2931.at gC rfl id, o31.at g30 rfl id, by omega, by omega, by omega⟩ g31
        ⟨fun j hj => lg j (by rcases hj with rfl | rfl | rfl | rfl | rfl | rfl | rfl <;> omega), ⟨by omega, by omega, by omega, by omega, by omega, by omega⟩, ⟨by omega, by omega, by omega, by omega, by omega⟩⟩ (by omega) f31 (hv.only o031) hN hl fun h' g' fs' f' nx q hr => ?_
      have nfin : ∀ {L : Nat → Prop} {hz : H}, Only L h' hz → (∀ i, L i → i = h2.next ∨ i = h29.next ∨ i = h30.next) → FsAt hz g' fs' ∧ Nxt h g hz g' := fun {L hz} oz hL => by
        have hx := nx.o.next
        have ng : ∀ i, (i = h2.next ∨ i = h29.next ∨ i = h30.next) → ¬ Own g' i := fun i hi c => by
          rcases nx.own i c with c | c
          · exact lg i (by rcases hi with rfl | rfl | rfl <;> omega) c
          · rcases hi with rfl | rfl | rfl <;> omega
        refine ⟨f'.only oz fun i c l => ng i (hL i l) c, nx.id, ?_, fun i c => (nx.own i c).imp _root_.id fun c => by omega⟩
        refine ((o031.imp (L' := Own g) fun _ _ c => c.elim).trans nx.o fun i hi c => ?_).trans oz fun i hi c => ?_
        · rcases c with c | c | c
          · exact c
          · omega
          · omega
        · rcases hL i c with c | c | c <;> omega
      rcases hr with ⟨ep, gl⟩ | ⟨x, hx, ep, gx, gl⟩
      · rw [ep] at hk
        rw [endR_none16 gl]
        refine setLoop_r gl q.bI fun ha oa na ga => ?_
        obtain ⟨y, gy⟩ := q.gE
        refine stV_r (oa.at gy rfl fun e => by omega) rfl rfl (by rw [oa.base]; exact q.bE) fun hb ob nb gb => ?_
        refine leave_coll16 (ob.at (oa.at q.g0 rfl fun e => by omega) rfl fun e => by omega) (by rw [ob.base, oa.base]; exact q.b0) fun hc oc gc => ?_
        rw [ldI_at (oc.at gb rfl fun e => by omega) rfl]
        have oz := (oa.imp (L' := fun i => i = h2.next ∨ i = h29.next ∨ i = h30.next) fun _ _ c => .inr (.inr c)).trans ob fun _ _ c => .inl c
        have r := nfin (oz.trans oc fun _ _ c => .inr (.inl c)) fun _ c => c
        exact hk hc g' r.1 r.2
      · rw [ep] at hk
        rw [endR_ret16 gl]
        refine setLoop_r gl q.bI fun ha oa na ga => ?_
        refine leave_coll16 (oa.at q.g0 rfl fun e => by omega) (by rw [oa.base]; exact q.b0) fun hc oc gc => ?_
        rw [ldI_at (oc.at (oa.at gx rfl fun e => by omega) rfl fun e => by omega) rfl]
        have oz := (oa.imp (L' := fun i => i = h2.next ∨ i = h29.next ∨ i = h30.next) fun _ _ c => .inr (.inr c)).trans oc fun _ _ c => .inr (.inl c)
        have r := nfin oz fun _ c => c
        exact hk hc g' r.1 r.2
end Go.Proofs.Ytiejkbmobmgdkaa
