/- Append: bytes are written behind a file's end, piece by piece. No condition. -/
import Derived.Test.YtiejkbmobmgdkaaVxK
namespace Go.Am
open Go
set_option linter.all false
/-- the pieces from place i on are written -/
noncomputable def Fs.puts (n : Int) (b : List UInt8) : Nat → Nat → Fs → Int × Fs
  | 0, _, fs => (0, fs)
  | c + 1, i, fs => if i < b.length then (if (fs.pend ⟨0, [], [], n, (b.drop i).take 64⟩).1 = 0 then Fs.puts n b c (i + 64) (fs.pend ⟨0, [], [], n, (b.drop i).take 64⟩).2 else fs.pend ⟨0, [], [], n, (b.drop i).take 64⟩) else (0, fs)
noncomputable def Fs.append (fs : Fs) (s : List UInt8) (b : List UInt8) : Int × Fs :=
  if (fs.file s).2 ≠ 0 then ((fs.file s).2, fs) else if fs.space < Int.ofNat b.length then (8, fs) else fs.puts (fs.file s).1 b b.length 0
theorem Fs.Fits.raw {fs : Fs} {N : Nat} (f : fs.Fits N) : fs.raw.2.Fits N := by
  obtain ⟨n, h1, h2⟩ := f; exact ⟨n, by rw [Fs.raw_sure]; exact h1, by rw [Fs.raw_wait]; exact h2⟩
theorem Fs.Fits.pend {fs : Fs} {N : Nat} (f : fs.Fits N) (s : Stp) : (fs.pend s).2.Fits (N + (s.bytes.length + 72)) := by
  unfold Fs.pend
  split
  · obtain ⟨n, h1, h2⟩ := f
    refine ⟨n, ?_, ?_⟩
    · show Bnd n fs.raw.2.sure; rw [Fs.raw_sure]; exact h1
    · show n + wsum (fs.wait ++ [s]) ≤ _
      rw [wsum_append]
      have : wsum [s] = s.bytes.length + 72 := by simp [wsum]
      omega
  · exact f.raw.mono (Nat.le_add_right _ _)
theorem Fs.Fits.wait {fs : Fs} {N : Nat} (f : fs.Fits N) : fs.wait.length * 72 ≤ N := by
  obtain ⟨n, h1, h2⟩ := f; have := wsum_len fs.wait; omega
theorem setLoop_r {id : Nat} {st st' : LoopState} {p p' : Option Code} {ps : List Nat} {a b : Code} {e : List AV} {h : H} {k : H → Prop} (g : h.get id = .loop st p ps a b e) (hb : h.base ≤ id)
    (hk : ∀ h', Only (· = id) h h' → h'.next = h.next → h'.get id = .loop st' p' ps a b e → k h') : setLoop id st' p' h k := by
  unfold setLoop
  rw [g]
  exact put_r g rfl (by intros; intro c; cases c) hb hk
noncomputable def roundK (id : Nat) (k : AV → H → Prop) : Ks := ⟨fun _ _ h3 => setLoop id .ready none h3 (k (.bool true)), fun i _ _ h3 => setLoop id .done (some (.exit i)) h3 (k (.bool false)), fun _ _ h3 => setLoop id .done (some .ret) h3 (k (.bool false))⟩
noncomputable def roundN (G : Gam) (id : Nat) (b : Code) (k : AV → H → Prop) : List AV → List Dfr → H → Prop := fun e1 d1 h1 => match h1.get id with
  | .loop .ready pend _ _ _ _ => setLoop id .busy pend h1 fun h2 => G.code b (roundK id k) e1 d1 h2
  | _ => False
theorem yield_loop {G : Gam} {id q : Nat} {a b : Code} {env : List AV} {v : AV} {h : H} {k : AV → H → Prop} (gl : h.get id = .loop .ready none [q] a b env) :
    callK G (.yield id) [v] h k = G.code a ⟨fun e1 d1 h1 => match h1.get id with
      | .loop .ready pend _ _ _ _ => setLoop id .busy pend h1 fun h2 => G.code b (roundK id k) e1 d1 h2
      | _ => False, fun _ _ _ _ => False, fun _ _ _ => False⟩ (lset env q v) [] h := by
  show yieldK G id [v] h k = _
  unfold yieldK
  rw [gl]
  rfl
theorem round_loop {G : Gam} {id q : Nat} {a b : Code} {env e : List AV} {d : List Dfr} {h : H} {k : AV → H → Prop} (gl : h.get id = .loop .ready none [q] a b env) :
    roundN G id b k e d h = setLoop id .busy none h fun h2 => G.code b (roundK id k) e d h2 := by
  unfold roundN
  rw [gl]
end Go.Am
namespace Go.Proofs.Ytiejkbmobmgdkaa
open Go Go.Am
set_option linter.all false
set_option maxRecDepth 100000
noncomputable def gY : Gam := gamI J0 [] [] (denR ty (gamI J0 [(27, w27 s27'), (36, w36 s36), (39, w39 s39), (41, w41 s41), (42, w42 s42)] [] noCode))
noncomputable def Lp16 (st : LoopState) (p : Option Code) (E : List AV) : Blk := .loop st p [27] (rfAt Try.f16 0).1 (rfAt Try.f16 0).2 E
/-- a round -/
theorem yield16 {h : H} {id nF nE nN : Nat} {e0 e1 e2 e4 e5 e8 e9 e10 e11 e12 e13 e14 e15 e16 e17 e18 e19 e20 e21 e22 e23 e24 e25 e26 e27 e28 e29 e30 e31 e32 e33 e34 e35 e36 v : AV} {k : AV → H → Prop} (gl : h.get id = Lp16 .ready none [e0, e1, e2, .ptr nF 0, e4, e5, .ptr nE 0, .ptr nN 0, e8, e9, e10, e11, e12, e13, e14, e15, e16, e17, e18, e19, e20, e21, e22, e23, e24, e25, e26, e27, e28, e29, e30, e31, e32, e33, e34, e35, e36]) (hb : h.base ≤ id)
    (hk : ∀ h2, Only (· = id) h h2 → h2.next = h.next → h2.get id = Lp16 .busy none [e0, e1, e2, .ptr nF 0, e4, e5, .ptr nE 0, .ptr nN 0, e8, e9, e10, e11, e12, e13, e14, e15, e16, e17, e18, e19, e20, e21, e22, e23, e24, e25, e26, e27, e28, e29, e30, e31, e32, e33, e34, e35, e36] →
      (ldV (AV.ptr nF 0) h2 fun v1 =>
ldI .i64 (AV.ptr nN 0) h2 fun x2 =>
s42 v h2 fun v4 h3 =>
ck (readsSo (aLoad1 (AV.ptr nN 0) h3) (AV.int .i64 x2)) (
ck (readsSo (aLoad1 (AV.ptr nF 0) h3) v1) (
ck (isOne v4) (s36 v1 (AV.agg [(AV.int .i64 (Int.ofNat 0)), (.str ⟨0, 0⟩), (.str ⟨0, 0⟩), (AV.int .i64 x2), v4]) h3 fun x6 h5 =>
fB (Bool.not (eqI x6 (Int.ofNat 0))) fun b7 =>
br b7 (
stV (AV.ptr nE 0) (AV.int .i64 x6) h5 fun h8 =>
setLoop id .done (some .ret) h8 (k (.bool false))) (
setLoop id .ready none h5 (k (.bool true)))))))) : callK gY (.yield id) [v] h k := by
  unfold Lp16 at gl
  rw [yield_loop gl]
  show gY.code (rfAt Try.f16 0).1 ⟨roundN gY id (rfAt Try.f16 0).2 k, _, _⟩ _ [] h
  refine (assign16 J0 [(27, w27 s27'), (36, w36 s36), (39, w39 s39), (41, w41 s41), (42, w42 s42)] e0 e1 e2 (.ptr nF 0) e4 e5 (.ptr nE 0) (.ptr nN 0) e8 e9 e10 e11 e12 e13 e14 e15 e16 e17 e18 e19 e20 e21 e22 e23 e24 e25 e26 e28 e29 e30 e31 e32 e33 e34 e35 e36 v h (roundN gY id (rfAt Try.f16 0).2 k) (fun _ _ _ _ => False) (fun _ _ _ => False)).mpr ?_
  rw [round_loop gl]
  refine setLoop_r gl hb fun h2 o2 n2 g2 => ?_
  refine (body16 J0 s27' s36 s39 s41 s42 e0 e1 e2 e4 e5 e8 e10 e11 e12 e13 e14 e15 e16 e17 e18 e19 e20 e21 e22 e23 e24 e25 e26 v e28 e29 e30 e31 e32 e33 e34 e35 e36 v nF nE nN h2 (fun h3 => setLoop id .ready none h3 (k (.bool true))) (fun h3 => setLoop id .done (some .ret) h3 (k (.bool false))) (fun i h3 => setLoop id .done (some (.exit i)) h3 (k (.bool false)))).mpr ?_
  exact hk h2 o2 n2 g2
end Go.Proofs.Ytiejkbmobmgdkaa
