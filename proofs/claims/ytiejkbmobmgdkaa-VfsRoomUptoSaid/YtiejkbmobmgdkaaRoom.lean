/- The statement 'VfsRoom': whatever the room and the acts, of bulk as the form says, the law returns true, and what came in reads as it did. No condition. -/
import Derived.Test.YtiejkbmobmgdkaaRows
import Derived.Test.YtiejkbmobmgdkaaVxY
import Derived.Test.YtiejkbmobmgdkaaVxZ
import Derived.WideShapes
import Derived.Deep.CondSized
namespace Go.Proofs.Ytiejkbmobmgdkaa
open Go Go.Am Go.ChangeShapes Go.WideShapes Go.ChangeAt Go.RowKit
set_option maxRecDepth 100000
set_option linter.all false
theorem Try.own : ownKnob Try.prog.godebug = none := by kernel_rfl
theorem Try.laidOut : laidOutB Try.prog = true := by kernel_rfl
noncomputable def f4 : Int → AV → H → (Bool → H → Prop) → Prop := s4G J0 pLives s10 s11 s12 s14 s16 s17' s20 s22 s23 s24 s25 s26F s27'
theorem q4_ok : FunOk Try.prog 4 (w4 f4) := (fun_ok ty_ok mixed (gam_ok (J := J0) (tab_cons q9_ok (tab_cons g10_ok (tab_cons g11_ok (tab_cons g12_ok (tab_cons g14_ok (tab_cons g16_ok (tab_cons g17'_ok (tab_cons g20_ok (tab_cons g22_ok (tab_cons g23_ok (tab_cons g24_ok (tab_cons g25_ok (tab_cons g26F_ok (tab_cons g27'_ok (tab_nil fls_fun)))))))))))))))) Try.func4 (fun args w => by simp)).imp fun xs h k e0 => by
  obtain ⟨a0, xs0, rfl, e1⟩ := arg_imp e0
  obtain ⟨a1, xs1, rfl, e2⟩ := arg_imp e1
  obtain ⟨rfl, e3⟩ := noArg_imp e2
  obtain ⟨a0, rfl, e4⟩ := asI_iff.1 e3
  exact (s4_eq J0 pLives s10 s11 s12 s14 s16 s17' s20 s22 s23 s24 s25 s26F s27' a0 a1 h k).mpr e4
theorem w4_of {c : Int → AV → H → (Bool → H → Prop) → Prop} {a1 : AV} {n2 : Int} {h : H} {K : AV → H → Prop} (q : c n2 a1 h fun r h => K (.bool r) h) : w4 c [.int .i64 n2, a1] h K := by
  show asI .i64 (.int .i64 n2) (fun a2 => c a2 a1 h fun r h => K (.bool r) h)
  rw [asI_int]
  exact q
theorem t4_law {h : H} {v : AV} {L : List ActE} {n : Int} (hb : h.base ≤ h.next) (hp : Acts h v L) : w4 f4 [.int .i64 n, v] h isT :=
  w4_of (t4 hb hp fun h' => rfl)
theorem int_in {P : Program} {w : World} {r : Reach} {base : Nat} {t : TypeId} {v : Value} (ht : P.underlying t = some (.int .i64)) (h : Value.okWide P w r base t v) : ∃ n : Int, v = .int .i64 n ∧ n < 9223372036854775808 := by
  obtain ⟨n, rfl⟩ := okWide_int ht h
  refine ⟨n, rfl, ?_⟩
  simp only [Value.okWide, ht, Cell.okWide, Cell.ok] at h
  have := h.2.2
  simp [IntKind.max, IntKind.signed, IntKind.bits] at this
  omega
set_option maxHeartbeats 4000000 in
theorem room_lifted (os : Os) (started : os.Started) (H : Type) (enc : TypeId × Value → H) (F : Stop.Interp) :
    ReturnsInHanded {} Try.checked os 4 .any ((Rows.OpenSpec.upto Rows.vfsRoomSpec).pre6 enc Try.prog Try.f4 Rows.vfsRoomUptoRow.domain false) (((Rows.OpenSpec.upto Rows.vfsRoomSpec).at F).post enc Try.prog Try.f4 false true false false) := by
  refine returnsInHanded_of_cond_sized (C := Try.checked) (s := Rows.OpenSpec.upto Rows.vfsRoomSpec) (k := Rows.uptoSmall) rfl Try.own started (by kernel_rfl) Try.func4
    (OpenSpec.witness (enc := enc) (C := Try.checked) (s := Rows.OpenSpec.upto Rows.vfsRoomSpec) (k := Rows.uptoSmall) rfl false ⟨#[], #[.int .i64 0, .slice none 0 0], []⟩ 8 (by kernel_rfl) (by kernel_rfl) (by kernel_rfl)
      (x := ([.lit (.int .i64 0), .nil], [], [])) (by kernel_rfl) rfl (by kernel_rfl)) ?_
  intro W base args ds gs before hval0 hW hcnd hk hsz _
  have hW' := hW
  obtain ⟨p, q, hA, hV, rfl, hfz, hnd⟩ := hW
  rw [Try.params4] at hA hval0 hsz
  obtain ⟨v2, vs2, d2, ds2, p2, q2, e0, rfl, rfl, h2, hA⟩ := trodAll_cons hA
  obtain ⟨v0, vs0, d0, ds0, p0, q0, rfl, rfl, rfl, h0, hA⟩ := trodAll_cons hA
  obtain ⟨rfl, rfl, rfl⟩ := trodAll_nil hA
  obtain ⟨rfl, rfl⟩ := trodVars_none hV
  obtain rfl : args = #[v2, v0] := Array.toList_inj.1 e0
  obtain ⟨n2, rfl, b2⟩ := int_in Try.underlying3 (hval0 0 3 v2 rfl rfl)
  have c5 : Try.prog.cellsOf 5 = 1 := by kernel_rfl
  have c31 : Try.prog.cellsOf 31 = 1 := by kernel_rfl
  have c3 : Try.prog.cellsOf 3 = 1 := by kernel_rfl
  have c9 : Try.prog.cellsOf 9 = 1 := by kernel_rfl
  have c44 : Try.prog.cellsOf 44 = 6 := by kernel_rfl
  have hok' : Value.okWide Try.prog W .any base 40 v0 := hval0 1 40 v0 rfl rfl
  obtain ⟨a, len, cap, rfl⟩ := okWide_slice Try.underlying40 hok'
  obtain ⟨fuel, ht⟩ := h0
  have hw : ∀ es sp, (d0, p0).1 = .slice es sp → es.length < 4611686018427387904 := by
    intro es sp e
    have e : d0 = .slice es sp := e
    subst e
    have hw := List.all_eq_true.1 hsz
    have hb44 : Try.prog.bytesOf 44 = 80 := by kernel_rfl
    have := of_decide_eq_true (hw ((es.length + sp.length) * Try.prog.bytesOf 44) (by
      show _ ∈ DataW.weightsEach Try.prog (3 :: 40 :: _) (_ :: _ :: _)
      simp only [DataW.weightsEach]
      refine List.mem_append_right _ (List.mem_append_left _ ?_)
      simp only [DataW.weights, Try.underlying40]
      exact List.mem_cons_self))
    rw [hb44] at this
    have hr : reachBytes = 140737488351232 := rfl
    omega
  obtain ⟨rs, a0, L, g0, ra0, hp⟩ := acts_in (W := W) (r := .any) (b0 := base) (t := 40) (e := 44) (tI := 3) (tS := 9) (tB := 31) (tU := 5) Try.underlying40 c44 Try.underlying44 rfl rfl rfl rfl rfl rfl Try.underlying3 c3 Try.underlying9 c9 Try.underlying31 c31 Try.underlying5 c5 (by simpa only [Value.okWide, Try.underlying40] using hok') (show DataW.trod enc Try.prog W 0 (fun _ => true) true fuel 40 [.slice a len cap] = some (d0, p0) from ht) hw
  have main : Calls Try.prog 4 #[.int .i64 n2, .slice a len cap] W fun e W' => e = .returned (.bool true) ∧ Below W.heap.size W W' :=
    law q4_ok (fun args w => by simp) («as» := [.int .i64 n2, a0])
      (t4_law (by rw [hG_base, hG_next]; exact Nat.le_refl _) hp) prot_G (rel_G g0)
      (AV.relL_cons_cons.2 ⟨by simp only [AV.rel], AV.relL_cons_cons.2 ⟨ra0, AV.relL_nil.2 rfl⟩⟩)
  refine main.mono fun e W' ⟨he, hb⟩ => ?_
  subst he
  exact ⟨_, rfl, post_of_below rfl Try.laidOut (pars_ok (by rw [Try.params4]; kernel_rfl)) hW' hb rfl rfl (fun b sp hd => bool_res (t := 4) (by kernel_rfl) Try.underlying4 true b sp hd)⟩
theorem room_holds : Rows.VfsRoomUptoSaid :=
  OpenClaim.holds_of_cond 4 Try.f4 rfl rfl rfl rfl rfl rfl rfl ⟨rfl, rfl, rfl, rfl, rfl⟩ rfl rfl rfl rfl rfl (by kernel_rfl) Try.func4 (by kernel_rfl)
    (of_decide_eq_true (by kernel_rfl)) (by unfold Func.isWrapper; first | (rw [if_pos (by decide +kernel)]; kernel_rfl) | (rw [if_neg (by decide +kernel)]; exact ⟨rfl, rfl⟩))
    (fun os started H enc _ F => room_lifted os started H enc F)
end Go.Proofs.Ytiejkbmobmgdkaa
