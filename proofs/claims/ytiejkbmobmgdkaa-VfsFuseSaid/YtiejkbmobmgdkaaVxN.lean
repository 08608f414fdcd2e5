/- Append: the loop over the pieces. No condition. -/
import Derived.Test.YtiejkbmobmgdkaaVxM
namespace Go.Am
open Go
set_option linter.all false
theorem puts_end {n : Int} {b : List UInt8} {i : Nat} (h : b.length ≤ i) (c : Nat) (fs : Fs) : fs.puts n b c i = (0, fs) := by
  cases c with
  | zero => rfl
  | succ c => show (if i < b.length then _ else _) = _; rw [if_neg (by omega)]
theorem take_min (b : List UInt8) (i : Nat) : (b.drop i).take (min 64 (b.length - i)) = (b.drop i).take 64 := by
  by_cases h : 64 ≤ b.length - i
  · rw [Nat.min_eq_left h]
  · rw [Nat.min_eq_right (by omega), List.take_of_length_le (by simp), List.take_of_length_le (by simp; omega)]
end Go.Am
namespace Go.Proofs.Ytiejkbmobmgdkaa
open Go Go.Am
set_option linter.all false
set_option maxRecDepth 100000
theorem spX_some (v : AV) (k : AV → Prop) : spX (some v) k = k v := rfl
theorem gY_is : gamI J0 [] [] (denR ty (gamI J0 [(27, g27'), (36, g36), (39, g39), (41, g41), (42, g42)] [] noCode)) = gY := by
  unfold gY g27' g36 g39 g41 g42; rfl
/-- where the loop stands -/
structure I16 (h0 : H) (g0 : FsG) (fs0 : Fs) (n : Int) (w : AV) (b : List UInt8) (N : Nat) (E : List AV) (nF nE nN cS cN id0 id : Nat) (m : Nat) (v : AV × AV × AV × AV × Unit) (d : List Dfr) (h : H) (i c : Nat) (fs : Fs) (g : FsG) : Prop where
  m : m = b.length + 64 - i
  le : i ≤ b.length + 63
  v : v = (.yield id, .ptr cS 0, .ptr cN 0, .int .i64 (Int.ofNat i), ())
  d : d = []
  cl : b.length ≤ c + i
  f : FsAt h g fs
  nx : NxtX (fun i => i = id ∨ i = nE) h0 g0 h g
  q : B16 g0 n w E nF nE nN cS cN id0 id h
  gl : h.get id = Lp16 .ready none E
  fit : fs.Fits (N + 73 * i)
  eq : fs0.puts n b b.length 0 = fs.puts n b c i
theorem loop16 {h : H} {g : FsG} {fs : Fs} {n : Int} {w : AV} {b : List UInt8} {nF nE nN cS cN id0 id : Nat} {e0 e1 e2 e4 e5 e8 e9 e10 e11 e12 e13 e14 e15 e16 e17 e18 e19 e20 e21 e22 e23 e24 e25 e26 e27 e28 e29 e30 e31 e32 e33 e34 e35 e36 : AV} {k : H → Prop} {N : Nat}
    (q : B16 g n w [e0, e1, e2, .ptr nF 0, e4, e5, .ptr nE 0, .ptr nN 0, e8, e9, e10, e11, e12, e13, e14, e15, e16, e17, e18, e19, e20, e21, e22, e23, e24, e25, e26, e27, e28, e29, e30, e31, e32, e33, e34, e35, e36] nF nE nN cS cN id0 id h) (gl : h.get id = Lp16 .ready none [e0, e1, e2, .ptr nF 0, e4, e5, .ptr nE 0, .ptr nN 0, e8, e9, e10, e11, e12, e13, e14, e15, e16, e17, e18, e19, e20, e21, e22, e23, e24, e25, e26, e27, e28, e29, e30, e31, e32, e33, e34, e35, e36]) (far : Far g nF nE nN cS cN id0 id) (hlt : id < h.next ∧ nE < h.next ∧ nF < h.next ∧ nN < h.next ∧ cS < h.next ∧ cN < h.next ∧ id0 < h.next) (f : FsAt h g fs) (hw : SlB h w b) (hN : fs.Fits N) (hl : N + 73 * (b.length + 64) ≤ mostRoom)
    (hk : ∀ h' g' fs', FsAt h' g' fs' → NxtX (fun i => i = id ∨ i = nE) h g h' g' → B16 g n w [e0, e1, e2, .ptr nF 0, e4, e5, .ptr nE 0, .ptr nN 0, e8, e9, e10, e11, e12, e13, e14, e15, e16, e17, e18, e19, e20, e21, e22, e23, e24, e25, e26, e27, e28, e29, e30, e31, e32, e33, e34, e35, e36] nF nE nN cS cN id0 id h' →
      ((fs.puts n b b.length 0 = (0, fs') ∧ h'.get id = Lp16 .ready none [e0, e1, e2, .ptr nF 0, e4, e5, .ptr nE 0, .ptr nN 0, e8, e9, e10, e11, e12, e13, e14, e15, e16, e17, e18, e19, e20, e21, e22, e23, e24, e25, e26, e27, e28, e29, e30, e31, e32, e33, e34, e35, e36]) ∨ (∃ x, x ≠ 0 ∧ fs.puts n b b.length 0 = (x, fs') ∧ h'.get nE = .cells false 25 [.int .i64 x] ∧ h'.get id = Lp16 .done (some .ret) [e0, e1, e2, .ptr nF 0, e4, e5, .ptr nE 0, .ptr nN 0, e8, e9, e10, e11, e12, e13, e14, e15, e16, e17, e18, e19, e20, e21, e22, e23, e24, e25, e26, e27, e28, e29, e30, e31, e32, e33, e34, e35, e36])) → k h') :
    s50_16 (.yield id) (.ptr cS 0) (.ptr cN 0) h k := by
  have hmost : mostRoom = 140737488355328 := rfl
  show s50G J0 _ _ _ _ h k
  unfold s50G
  refine lp_rule (fun m v d h' => ∃ i c fs' g', I16 h g fs n w b N [e0, e1, e2, .ptr nF 0, e4, e5, .ptr nE 0, .ptr nN 0, e8, e9, e10, e11, e12, e13, e14, e15, e16, e17, e18, e19, e20, e21, e22, e23, e24, e25, e26, e27, e28, e29, e30, e31, e32, e33, e34, e35, e36] nF nE nN cS cN id0 id m v d h' i c fs' g') (fun m self v d hc inv next => ?_) (n := b.length + 64) (by show _ < 4611686018427387904; omega)
    ⟨0, b.length, fs, g, rfl, by omega, rfl, rfl, by omega, f, ⟨rfl, Only.refl _ _, fun _ => .inl⟩, q, gl, hN, rfl⟩
  obtain ⟨i, c, fs', g', I⟩ := inv
  obtain ⟨rfl, hle, rfl, rfl, hc1, fc, nx, qc, glc, fit, eq⟩ := I
  dsimp only
  rw [ldV_at qc.gS rfl]
  have hwc := hw.only nx.o
  rw [hwc.len, asI_int, fB_eq]
  refine br_intro (fun h0 => ?_) fun h0 => ?_
  · have hi := ltI_nat.1 h0
    rw [ldI_at qc.gC rfl, ldV_at qc.gS rfl]
    refine hwc.rest hi fun v11 h11 => ?_
    have em : aMin (.int .i64 (Int.ofNat 64)) (.int .i64 (Int.ofNat (b.length - i))) = some (.int .i64 (Int.ofNat (min 64 (b.length - i)))) := by
      unfold aMin
      show some (AV.int .i64 (Bool.rec (Int.ofNat 64) (Int.ofNat (b.length - i)) (ltI (Int.ofNat (b.length - i)) (Int.ofNat 64)))) = _
      by_cases hm : b.length - i < 64
      · rw [ltI_nat.2 hm, Nat.min_eq_right (by omega)]
      · rw [ltI_nat'.2 (by omega), Nat.min_eq_left (by omega)]
    rw [h11, em, op'_some, asI_int, ldV_at qc.gS rfl, asI_int]
    have ea : wrapF .i64 (Int.add (Int.ofNat i) (Int.ofNat (min 64 (b.length - i)))) = Int.ofNat (i + min 64 (b.length - i)) := by
      show wrapF .i64 (Int.ofNat (i + min 64 (b.length - i))) = _
      exact wrapF_nat (by show _ < 9223372036854775808; omega)
    rw [ea, fI_eq, asI_int, ea, fI_eq]
    obtain ⟨v20, part1, hv20⟩ := hwc.part (i := i) (m := min 64 (b.length - i)) (by omega) (by omega) (kk := .i64) (k2 := .i64) (k3 := .i64)
    rw [part1]
    rw [spX_some, gY_is]
    rw [take_min] at hv20
    have hpl : ((b.drop i).take 64).length ≤ 64 := by simp; omega
    have farc : Far g' nF nE nN cS cN id0 id := ⟨fun j hj cj => by
      rcases nx.own j cj with c1 | c1
      · exact far.all j hj c1
      · rcases hj with rfl | rfl | rfl | rfl | rfl | rfl | rfl <;> omega, far.i1, far.e1⟩
    have qc' : B16 g' n w [e0, e1, e2, .ptr nF 0, e4, e5, .ptr nE 0, .ptr nN 0, e8, e9, e10, e11, e12, e13, e14, e15, e16, e17, e18, e19, e20, e21, e22, e23, e24, e25, e26, e27, e28, e29, e30, e31, e32, e33, e34, e35, e36] nF nE nN cS cN id0 id hc := ⟨by rw [nx.id]; exact qc.gF, qc.gN, qc.gE, qc.gS, qc.gC, qc.g0, qc.bE, qc.b0, qc.bI⟩
    obtain ⟨c, rfl⟩ : ∃ c', c = c' + 1 := ⟨c - 1, by omega⟩
    have ep : fs'.puts n b (c + 1) i = (if (fs'.pend ⟨0, [], [], n, (b.drop i).take 64⟩).1 = 0 then Fs.puts n b c (i + 64) (fs'.pend ⟨0, [], [], n, (b.drop i).take 64⟩).2 else fs'.pend ⟨0, [], [], n, (b.drop i).take 64⟩) := by
      show (if i < b.length then _ else _) = _
      rw [if_pos hi]
    have back : ∀ {hx : H}, B16 g' n w [e0, e1, e2, .ptr nF 0, e4, e5, .ptr nE 0, .ptr nN 0, e8, e9, e10, e11, e12, e13, e14, e15, e16, e17, e18, e19, e20, e21, e22, e23, e24, e25, e26, e27, e28, e29, e30, e31, e32, e33, e34, e35, e36] nF nE nN cS cN id0 id hx → B16 g n w [e0, e1, e2, .ptr nF 0, e4, e5, .ptr nE 0, .ptr nN 0, e8, e9, e10, e11, e12, e13, e14, e15, e16, e17, e18, e19, e20, e21, e22, e23, e24, e25, e26, e27, e28, e29, e30, e31, e32, e33, e34, e35, e36] nF nE nN cS cN id0 id hx := fun qx => ⟨by rw [← nx.id]; exact qx.gF, qx.gN, qx.gE, qx.gS, qx.gC, qx.g0, qx.bE, qx.b0, qx.bI⟩
    refine round16 qc' glc farc fc hv20 fit (by omega) (fun hd gd fd nd e0 qd gld => ?_) fun hd gd fd nd e0 qd gEd gld => ?_
    · rw [asB_bool, fB_eq]
      show br false _ _
      rw [br_f, ldI_at qd.gC rfl, asI_int]
      have e64 : wrapF .i64 (Int.add (Int.ofNat i) (Int.ofNat 64)) = Int.ofNat (i + 64) := by
        show wrapF .i64 (Int.ofNat (i + 64)) = _
        exact wrapF_nat (by show _ < 9223372036854775808; omega)
      rw [e64, fI_eq]
      refine next (b.length + 64 - (i + 64)) _ _ _ (by omega) ⟨i + 64, c, _, gd, rfl, by omega, rfl, rfl, by omega, fd, nx.trans nd, back qd, gld, ((fit.pend _).mono (by show N + 73 * i + (((b.drop i).take 64).length + 72) ≤ _; omega)), ?_⟩
      rw [eq, ep, if_pos e0]
    · rw [asB_bool, fB_eq]
      show br true _ _
      rw [br_t]
      show k hd
      refine hk hd gd _ fd (nx.trans nd) (back qd) (.inr ⟨_, e0, ?_, gEd, gld⟩)
      rw [eq, ep, if_neg e0]
  · have hi := ltI_nat'.1 h0
    show k hc
    exact hk hc g' fs' fc nx qc (.inl ⟨by rw [eq, puts_end hi], glc⟩)
end Go.Proofs.Ytiejkbmobmgdkaa
