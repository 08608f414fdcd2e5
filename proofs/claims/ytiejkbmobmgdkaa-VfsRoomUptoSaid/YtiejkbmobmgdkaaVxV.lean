/- The law VfsSynced, walked: what was synced survives every crash. No condition. -/
import Derived.Test.YtiejkbmobmgdkaaPxE
import Derived.Test.YtiejkbmobmgdkaaVxS
namespace Go.Am
open Go
set_option linter.all false
theorem lv_r {G : Gam} {h : H} {k : H → Prop} (q : k h) : leaveK G [] h k := q
/-- bytes in a row that came in -/
structure Pcs (h : H) (v : AV) (L : List (AV × List UInt8)) : Prop where
  row : (v = .nils ∧ L = []) ∨ ∃ id tt cap ex, v = .slice id 0 L.length cap 1 ex ∧ id < h.base ∧ h.get id = .cells true tt (L.map (·.1))
  els : ∀ p ∈ L, SlB h p.1 p.2
theorem Pcs.only {Q : Nat → Prop} {h h' : H} {v : AV} {L : List (AV × List UInt8)} (p : Pcs h v L) (o : Only Q h h') (hq : ∀ i, i < h.base → ¬ Q i) : Pcs h' v L := by
  refine ⟨?_, fun q hq => (p.els q hq).only o⟩
  rcases p.row with c | ⟨id, tt, cap, ex, h1, h2, h3⟩
  · exact .inl c
  · exact .inr ⟨id, tt, cap, ex, h1, by rw [o.base]; exact h2, o.at h3 rfl (hq id h2)⟩
theorem Pcs.len {h : H} {v : AV} {L : List (AV × List UInt8)} (p : Pcs h v L) (k : Nat → Prop) : lenK v k = k L.length := by
  rcases p.row with ⟨rfl, rfl⟩ | ⟨id, tt, cap, ex, rfl, h2, h3⟩ <;> rfl
theorem Pcs.read {h : H} {v : AV} {L : List (AV × List UInt8)} (p : Pcs h v L) {i : Nat} (hi : i < L.length) {kk : IntKind} {k : AV → Prop}
    (hk : ∀ id tt, h.get id = .cells true tt (L.map (·.1)) → id < h.base → k (.ptr id i)) : ixK 1 v (.int kk (Int.ofNat i)) k := by
  rcases p.row with ⟨rfl, rfl⟩ | ⟨id, tt, cap, ex, rfl, h2, h3⟩
  · simp at hi
  · rw [ixK1 hi]; exact hk id tt h3 h2
theorem Own.base {h : H} {g : FsG} {fs : Fs} (f : FsAt h g fs) {i : Nat} (o : Own g i) : h.base ≤ i := by
  obtain ⟨w, e1, e2⟩ := f.obj
  rcases o with rfl | rfl | rfl | o
  · exact f.bs
  · exact f.tree.bf
  · exact f.tree.bn
  · rcases e2 with ⟨_, _, h1⟩ | ⟨_, id, mv, cs, h1, h2, h3, h4, h5⟩
    · rw [h1] at o; cases o
    · rw [h1] at o; injection o with o; subst o; exact h3
theorem Own.low {h : H} {g : FsG} {fs : Fs} (f : FsAt h g fs) (i : Nat) (hi : i < h.base) : ¬ Own g i := fun o => by have := Own.base f o; omega
end Go.Am
namespace Go.Proofs.Ytiejkbmobmgdkaa
open Go Go.Am
set_option linter.all false
set_option maxRecDepth 100000
theorem nzb {x : Int} (h : x ≠ 0) : Bool.not (eqI x (Int.ofNat 0)) = true := by rw [show eqI x (Int.ofNat 0) = false from eqI_false.2 h]; rfl
/-- a round of VfsSynced -/
structure R3 (a0 : AV) (L : List (AV × List UInt8)) (kk t : Int) (P : Nat) (m : Nat) (v : AV × AV × AV × AV × AV × AV × AV × Unit) (d : List Dfr) (h : H) (i : Nat) (g : FsG) (fs : Fs) (all sv : List UInt8) (av svv : AV) (N : Nat) : Prop where
  m : m = L.length - i
  le : i ≤ L.length
  v : v = (a0, .int .i64 kk, .int .i64 t, .ptr P 0, av, svv, .int .i64 (Int.ofNat i), ())
  d : d = []
  f : FsAt h g fs
  id : g.id = P
  o : SynOn all sv fs
  inv : Am.Inv fs N 1
  N : N ≤ 1000 + 30000 * i
  la : all.length ≤ 400 * i
  av : SlB h av all
  svv : SlB h svv sv
  p : Pcs h a0 L
end Go.Proofs.Ytiejkbmobmgdkaa
