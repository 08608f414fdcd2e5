/- The law 'LsmNil', lifted: it returns true from every fit start. No condition. -/
import Derived.Test.YtfbdniomnnpemaaGreatDoorCards
import Derived.Test.YtfbdniomnnpemaaGreatDoorTie
import Derived.Test.YtfbdniomnnpemaaGreatDoorAmS11
import Derived.Test.YtfbdniomnnpemaaGreatDoorAmL7
import Derived.Lay
import Derived.LaidLaws
import Derived.MakeChecks
import Derived.SevenTiedAt
namespace Go.Proofs.YtfbdniomnnpemaaGreatDoor
open Go Go.Am Go.ChangeShapes Go.WideShapes Go.ChangeAt Go.RowKit
set_option maxRecDepth 100000
theorem Tryz.own : ownKnob Tryz.prog.godebug = none := by kernel_rfl
theorem Tryz.laidOut : laidOutB Tryz.prog = true := by kernel_rfl
def HgLit (ts us : Nat → Nat) : H := ⟨(.nd (.cells false (ts 0) [.iface (us 0) .junk]) (.nd (.cells false (ts 1) [.iface (us 1) .junk]) (.nd .dead .lf .lf) (.nd (.cells false (ts 5) [.int .u8 0, .int .u8 1, .int .u8 56, .int .u8 2, .int .u8 57, .int .u8 49, .int .u8 28, .int .u8 3, .int .u8 61, .int .u8 58, .int .u8 42, .int .u8 50, .int .u8 38, .int .u8 29, .int .u8 17, .int .u8 4, .int .u8 62, .int .u8 47, .int .u8 59, .int .u8 36, .int .u8 45, .int .u8 43, .int .u8 51, .int .u8 22, .int .u8 53, .int .u8 39, .int .u8 33, .int .u8 30, .int .u8 24, .int .u8 18, .int .u8 12, .int .u8 5, .int .u8 63, .int .u8 55, .int .u8 48, .int .u8 27, .int .u8 60, .int .u8 41, .int .u8 37, .int .u8 16, .int .u8 46, .int .u8 35, .int .u8 44, .int .u8 21, .int .u8 52, .int .u8 32, .int .u8 23, .int .u8 11, .int .u8 54, .int .u8 26, .int .u8 40, .int .u8 15, .int .u8 34, .int .u8 20, .int .u8 31, .int .u8 10, .int .u8 25, .int .u8 14, .int .u8 19, .int .u8 9, .int .u8 13, .int .u8 8, .int .u8 7, .int .u8 6]) .lf .lf)) (.nd (.cells false (ts 2) [.int .u64 1, .int .u64 10, .int .u64 100, .int .u64 1000, .int .u64 10000, .int .u64 100000, .int .u64 1000000, .int .u64 10000000, .int .u64 100000000, .int .u64 1000000000, .int .u64 10000000000, .int .u64 100000000000, .int .u64 1000000000000, .int .u64 10000000000000, .int .u64 100000000000000, .int .u64 1000000000000000, .int .u64 10000000000000000, .int .u64 100000000000000000, .int .u64 1000000000000000000, .int .u64 10000000000000000000]) (.nd (.cells false (ts 4) [.int .u8 0, .int .u8 1, .int .u8 28, .int .u8 2, .int .u8 29, .int .u8 14, .int .u8 24, .int .u8 3, .int .u8 30, .int .u8 22, .int .u8 20, .int .u8 15, .int .u8 25, .int .u8 17, .int .u8 4, .int .u8 8, .int .u8 31, .int .u8 27, .int .u8 13, .int .u8 23, .int .u8 21, .int .u8 19, .int .u8 16, .int .u8 7, .int .u8 26, .int .u8 12, .int .u8 18, .int .u8 6, .int .u8 11, .int .u8 5, .int .u8 10, .int .u8 9]) .lf .lf) .lf)), 6, 6⟩
theorem hg_is (ts us : Nat → Nat) : Hg (glBlks Tryz.prog Rows.lsmNilRow.laid ts us) = HgLit ts us := by kernel_rfl
theorem law_run (ts us : Nat → Nat) (x0 : Int) (x1 : Int) (x2 : Int) (x3 : Str) (x4 : Str) (x5 : Str) : (AV.bool true = AV.bool true) = g3 [.agg [.int .i64 x0, .int .i64 x1, .int .i64 x2, .junk, .str x3, .str x4, .str x5]] (HgLit ts us) isT := by kernel_rfl
theorem law_ok (ts us : Nat → Nat) (x0 : Int) (x1 : Int) (x2 : Int) (x3 : Str) (x4 : Str) (x5 : Str) : Holds (g3 [.agg [.int .i64 x0, .int .i64 x1, .int .i64 x2, .junk, .str x3, .str x4, .str x5]] (Hg (glBlks Tryz.prog Rows.lsmNilRow.laid ts us)) isT) := Eq.subst (motive := fun h => Holds (g3 [.agg [.int .i64 x0, .int .i64 x1, .int .i64 x2, .junk, .str x3, .str x4, .str x5]] h isT)) (hg_is ts us).symm (holds_of_run (law_run ts us x0 x1 x2 x3 x4 x5))
theorem shape0 {l : List AV} (h : Shapes Tryz.prog [3, 3, 3, 22, 9, 9, 9] l) : ∃ x0 x1 x2 x3 x4 x5, l = [.int .i64 x0, .int .i64 x1, .int .i64 x2, .junk, .str x3, .str x4, .str x5] := by
  match l, h with
  | [a0, a1, a2, a3, a4, a5, a6], ⟨h0, h1, h2, h3, h4, h5, h6, _⟩ =>
    unfold Shape at h0; rw [Tryz.underlying3] at h0
    obtain ⟨y0, rfl⟩ := h0
    unfold Shape at h1; rw [Tryz.underlying3] at h1
    obtain ⟨y1, rfl⟩ := h1
    unfold Shape at h2; rw [Tryz.underlying3] at h2
    obtain ⟨y2, rfl⟩ := h2
    unfold Shape at h3; rw [Tryz.underlying22] at h3
    obtain rfl := h3
    unfold Shape at h4; rw [Tryz.underlying9] at h4
    obtain ⟨y3, rfl⟩ := h4
    unfold Shape at h5; rw [Tryz.underlying9] at h5
    obtain ⟨y4, rfl⟩ := h5
    unfold Shape at h6; rw [Tryz.underlying9] at h6
    obtain ⟨y5, rfl⟩ := h6
    exact ⟨y0, y1, y2, y3, y4, y5, rfl⟩
set_option maxHeartbeats 4000000 in
theorem law_lifted (os : Os) (started : os.Started) (H : Type) (enc : TypeId × Value → H) :
    ReturnsInHanded {} Tryz.checked os 3 .any (fun w args => (Rows.lsmNilSpec.pre enc Tryz.prog Tryz.f3 Rows.lsmNilRow.domain false w args ∧ laidMetH Tryz.prog Rows.lsmNilRow.laid w) ∧ sizedMet enc Tryz.prog Tryz.f3 (OpenSpec.ofChange Rows.lsmNilSpec) false w args) (Rows.lsmNilSpec.post enc Tryz.prog Tryz.f3 false true false false) := by
  refine returnsInHanded_of_change_and (C := Tryz.checked) (X := fun w _ => laidMetH Tryz.prog Rows.lsmNilRow.laid w) (fun _ _ _ hh h => h.of_heap hh) Tryz.own started (by kernel_rfl) Tryz.func3
    (ChangeSpec.witness_shaped (enc := enc) (C := Tryz.checked) (X := fun w _ => laidMetH Tryz.prog Rows.lsmNilRow.laid w) false (World.laidAll Tryz.prog os Rows.lsmNilRow.laid) #[.agg #[.int .i64 0, .int .i64 0, .int .i64 0, .slice none 0 0, .string ⟨#[]⟩, .string ⟨#[]⟩, .string ⟨#[]⟩]] 8 (World.laidAll_os _ _ _) (World.shaped_of_ZipB (by kernel_rfl) (by kernel_rfl)) (by kernel_rfl) (by kernel_rfl) (by kernel_rfl)
      (by rw [MakeChecks.laidMetH_plain _ _ _ (by kernel_rfl)]; exact laidMet_laidAll _ (by kernel_rfl) (by kernel_rfl))) ?_
  intro W base args ds gs before hval0 hW _ _ hL _
  have hW' := hW
  obtain ⟨p, q, hA, hV, rfl, hfz, hnd⟩ := hW
  rw [Tryz.params3] at hA hval0
  obtain ⟨v0, vs0, d0, ds0, p0, q0, e0, rfl, rfl, h0, hA⟩ := trodAll_cons hA
  obtain ⟨rfl, rfl, rfl⟩ := trodAll_nil hA
  obtain ⟨rfl, rfl⟩ := trodVars_none hV
  obtain rfl : args = #[v0] := Array.toList_inj.1 e0
  have r0 : ∃ l, Shapes Tryz.prog [3, 3, 3, 22, 9, 9, 9] l ∧ ∀ μ, AV.rel μ (.agg l) v0 := agg_shapes (ts := [3, 3, 3, 22, 9, 9, 9]) Tryz.underlying26 (by kernel_rfl) (by kernel_rfl) (hval0 0 26 v0 rfl rfl)
  obtain ⟨l0, hs0, r0⟩ := r0
  obtain ⟨x0, x1, x2, x3, x4, x5, rfl⟩ := shape0 hs0
  refine (lawG g3_ok (fun args w => by simp) hL (by kernel_rfl) (fun μ => AV.relL_cons_cons.2 ⟨r0 μ, AV.relL_nil.2 rfl⟩) (fun ts us => law_ok ts us x0 x1 x2 x3 x4 x5)).mono fun e W' ⟨he, hb⟩ => ?_
  subst he
  exact ⟨_, rfl, post_of_below rfl Tryz.laidOut (pars_ok (by rw [Tryz.params3]; kernel_rfl)) hW' hb rfl rfl (fun b sp hd => bool_res (t := 4) (by kernel_rfl) Tryz.underlying4 true b sp hd)⟩
end Go.Proofs.YtfbdniomnnpemaaGreatDoor
