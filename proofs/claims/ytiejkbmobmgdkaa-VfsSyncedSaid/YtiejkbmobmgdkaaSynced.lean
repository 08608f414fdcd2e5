/- The statement 'VfsSynced': whatever the pieces, the fuse and the crash, the law returns true, and what came in reads as it did. No condition. -/
import Derived.Test.YtiejkbmobmgdkaaRows
import Derived.Test.YtiejkbmobmgdkaaVxW
import Derived.WideShapes
namespace Go.Proofs.Ytiejkbmobmgdkaa
open Go Go.Am Go.ChangeShapes Go.WideShapes Go.ChangeAt Go.RowKit
set_option maxRecDepth 100000
set_option linter.all false
theorem Try.own : ownKnob Try.prog.godebug = none := by kernel_rfl
theorem Try.laidOut : laidOutB Try.prog = true := by kernel_rfl
noncomputable def f3 : AV → Int → Int → Int → H → (Bool → H → Prop) → Prop := s3G J0 pLives s10 s11 s12 s13 s14 s15 s16 s17' s18 s19 s20 s21
theorem q3_ok : FunOk Try.prog 3 (w3 f3) := (fun_ok ty_ok mixed (gam_ok (J := J0) (tab_cons q9_ok (tab_cons g10_ok (tab_cons g11_ok (tab_cons g12_ok (tab_cons g13_ok (tab_cons g14_ok (tab_cons g15_ok (tab_cons g16_ok (tab_cons g17'_ok (tab_cons g18_ok (tab_cons g19_ok (tab_cons g20_ok (tab_cons g21_ok (tab_nil fls_fun))))))))))))))) Try.func3 (fun args w => by simp)).imp fun xs h k e0 => by
  obtain ⟨a0, xs0, rfl, e1⟩ := arg_imp e0
  obtain ⟨a1, xs1, rfl, e2⟩ := arg_imp e1
  obtain ⟨a2, xs2, rfl, e3⟩ := arg_imp e2
  obtain ⟨a3, xs3, rfl, e4⟩ := arg_imp e3
  obtain ⟨rfl, e5⟩ := noArg_imp e4
  obtain ⟨a1, rfl, e6⟩ := asI_iff.1 e5
  obtain ⟨a2, rfl, e7⟩ := asI_iff.1 e6
  obtain ⟨a3, rfl, e8⟩ := asI_iff.1 e7
  exact (s3_eq J0 pLives s10 s11 s12 s13 s14 s15 s16 s17' s18 s19 s20 s21 a0 a1 a2 a3 h k).mpr e8
theorem w3_of {c : AV → Int → Int → Int → H → (Bool → H → Prop) → Prop} {a0 : AV} {n2 n3 n4 : Int} {h : H} {K : AV → H → Prop} (q : c a0 n2 n3 n4 h fun r h => K (.bool r) h) : w3 c [a0, .int .i64 n2, .int .i64 n3, .int .i64 n4] h K := by
  show asI .i64 (.int .i64 n2) (fun a2 => asI .i64 (.int .i64 n3) fun a3 => asI .i64 (.int .i64 n4) fun a4 => c a0 a2 a3 a4 h fun r h => K (.bool r) h)
  rw [asI_int, asI_int, asI_int]
  exact q
theorem t3_law {h : H} {v : AV} {L : List (AV × List UInt8)} {fuse k t : Int} (hb : h.base ≤ h.next) (hp : Pcs h v L) (hfu : fuse < 9223372036854775808) : w3 f3 [v, .int .i64 fuse, .int .i64 k, .int .i64 t] h isT :=
  w3_of (t3 hb hp hfu fun h' => rfl)
theorem int_in {P : Program} {w : World} {r : Reach} {base : Nat} {t : TypeId} {v : Value} (ht : P.underlying t = some (.int .i64)) (h : Value.okWide P w r base t v) : ∃ n : Int, v = .int .i64 n ∧ n < 9223372036854775808 := by
  obtain ⟨n, rfl⟩ := okWide_int ht h
  refine ⟨n, rfl, ?_⟩
  simp only [Value.okWide, ht, Cell.okWide, Cell.ok] at h
  have := h.2.2
  simp [IntKind.max, IntKind.signed, IntKind.bits] at this
  omega
set_option maxHeartbeats 4000000 in
theorem synced_lifted (os : Os) (started : os.Started) (H : Type) (enc : TypeId × Value → H) :
    ReturnsInHanded {} Try.checked os 3 .any (Rows.vfsSyncedSpec.pre6 enc Try.prog Try.f3 Rows.vfsSyncedRow.domain false) (Rows.vfsSyncedSpec.post enc Try.prog Try.f3 false true false false) := by
  refine returnsInHanded_of_change (C := Try.checked) Try.own started (by kernel_rfl) Try.func3
    (ChangeSpec.witness6 (enc := enc) (C := Try.checked) false ⟨#[], #[.slice none 0 0, .int .i64 0, .int .i64 0, .int .i64 0], []⟩ 8 (by kernel_rfl) (by kernel_rfl) (by kernel_rfl) (by kernel_rfl)) ?_
  intro W base args ds gs before hval0 hW hcnd _
  have hW' := hW
  obtain ⟨p, q, hA, hV, rfl, hfz, hnd⟩ := hW
  rw [Try.params3] at hA hval0
  obtain ⟨v0, vs0, d0, ds0, p0, q0, e0, rfl, rfl, h0, hA⟩ := trodAll_cons hA
  obtain ⟨v2, vs2, d2, ds2, p2, q2, rfl, rfl, rfl, h2, hA⟩ := trodAll_cons hA
  obtain ⟨v3, vs3, d3, ds3, p3, q3, rfl, rfl, rfl, h3, hA⟩ := trodAll_cons hA
  obtain ⟨v4, vs4, d4, ds4, p4, q4, rfl, rfl, rfl, h4, hA⟩ := trodAll_cons hA
  obtain ⟨rfl, rfl, rfl⟩ := trodAll_nil hA
  obtain ⟨rfl, rfl⟩ := trodVars_none hV
  obtain rfl : args = #[v0, v2, v3, v4] := Array.toList_inj.1 e0
  obtain ⟨n2, rfl, b2⟩ := int_in Try.underlying3 (hval0 1 3 v2 rfl rfl)
  obtain ⟨n3, rfl, b3⟩ := int_in Try.underlying3 (hval0 2 3 v3 rfl rfl)
  obtain ⟨n4, rfl, b4⟩ := int_in Try.underlying3 (hval0 3 3 v4 rfl rfl)
  have c5 : Try.prog.cellsOf 5 = 1 := by kernel_rfl
  have c31 : Try.prog.cellsOf 31 = 1 := by kernel_rfl
  have hok' : Value.okWide Try.prog W .any base 22 v0 := hval0 0 22 v0 rfl rfl
  obtain ⟨a, len, cap, rfl⟩ := okWide_slice Try.underlying22 hok'
  obtain ⟨fuel, ht⟩ := h0
  obtain ⟨rs, a0, L, g0, ra0, hp⟩ := pcs_in (W := W) (r := .any) (b0 := base) (t := 22) (t1 := 31) (e := 5) Try.underlying22 Try.underlying31 Try.underlying5 c31 c5 (by simpa only [Value.okWide, Try.underlying22] using hok') (show DataW.trod enc Try.prog W 0 (fun _ => true) true fuel 22 [.slice a len cap] = some (d0, p0) from ht)
  have main : Calls Try.prog 3 #[.slice a len cap, .int .i64 n2, .int .i64 n3, .int .i64 n4] W fun e W' => e = .returned (.bool true) ∧ Below W.heap.size W W' :=
    law q3_ok (fun args w => by simp) («as» := [a0, .int .i64 n2, .int .i64 n3, .int .i64 n4])
      (t3_law (by rw [hG_base, hG_next]; exact Nat.le_refl _) hp b2) prot_G (rel_G g0)
      (AV.relL_cons_cons.2 ⟨ra0, AV.relL_cons_cons.2 ⟨by simp only [AV.rel], AV.relL_cons_cons.2 ⟨by simp only [AV.rel], AV.relL_cons_cons.2 ⟨by simp only [AV.rel], AV.relL_nil.2 rfl⟩⟩⟩⟩)
  refine main.mono fun e W' ⟨he, hb⟩ => ?_
  subst he
  exact ⟨_, rfl, post_of_below rfl Try.laidOut (pars_ok (by rw [Try.params3]; kernel_rfl)) hW' hb rfl rfl (fun b sp hd => bool_res (t := 4) (by kernel_rfl) Try.underlying4 true b sp hd)⟩
theorem synced_holds : Rows.VfsSyncedSaid :=
  OpenClaim.holds_of_wide 3 Try.f3 rfl rfl rfl rfl rfl rfl rfl ⟨rfl, rfl, rfl, rfl, rfl⟩ rfl rfl rfl rfl rfl (by kernel_rfl) Try.func3 (by kernel_rfl)
    (of_decide_eq_true (by kernel_rfl)) (by unfold Func.isWrapper; first | (rw [if_pos (by decide +kernel)]; kernel_rfl) | (rw [if_neg (by decide +kernel)]; exact ⟨rfl, rfl⟩))
    (fun os started H enc _ => synced_lifted os started H enc)
end Go.Proofs.Ytiejkbmobmgdkaa
