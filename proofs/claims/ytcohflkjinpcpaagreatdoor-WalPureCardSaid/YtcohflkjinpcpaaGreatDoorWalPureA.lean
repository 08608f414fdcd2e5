/- The law 'WalPure', lifted: whatever the batch, the bytes and the number, it returns true. No condition. -/
import Derived.Test.YtcohflkjinpcpaaGreatDoorCards
import Derived.Test.YtcohflkjinpcpaaGreatDoorWaU
import Derived.Test.YtcohflkjinpcpaaGreatDoorWapQ
import Derived.Test.YtcohflkjinpcpaaGreatDoorWapW
import Derived.Test.YtcohflkjinpcpaaGreatDoorWapQ
import Derived.Lay
import Derived.LaidLaws
import Derived.MakeChecks
import Derived.SevenTiedAt
namespace Go.Proofs.YtcohflkjinpcpaaGreatDoor
open Go Go.Am Go.ChangeShapes Go.WideShapes Go.ChangeAt Go.RowKit
set_option maxRecDepth 100000
set_option linter.all false
section
variable {H' : Type} {enc : TypeId × Value → H'} {W : World} {base : Nat} {hd : Bool}
abbrev Tr' (enc : TypeId × Value → H') (W : World) (base : Nat) (hd : Bool) (fuel : Nat) (t : TypeId) (cs : List Value) (y : DataW H' × List MemPlace) : Prop := DataW.trod enc Tryz.prog W base (fun _ => true) hd fuel t cs = some y
theorem el_u8 (fuel : Nat) (cs : List Value) (y : DataW H' × List MemPlace) (hl : cs.length = 1) (h : Tr' enc W base hd fuel 5 cs y) : ∃ c : UInt8, AV.relL noMu (bcell c) cs := by
  match cs, hl with
  | [v], _ =>
    obtain ⟨n, rfl, hn⟩ := trod_intw Tryz.underlying5 h
    refine ⟨UInt8.ofNat n.toNat, AV.relL_cons_cons.2 ⟨?_, AV.relL_nil.2 rfl⟩⟩
    simp only [AV.rel]
    rw [← u8_wf hn]
theorem el_wr (fuel : Nat) (cs : List Value) (y : DataW H' × List MemPlace) (hl : cs.length = 3) (h : Tr' enc W base hd fuel 53 cs y) : ∃ t : Wt, AV.relL noMu (wrc t) cs := by
  match cs, hl with
  | [a, b, c], _ =>
    have c9 : Tryz.prog.cellsOf 9 = 1 := by kernel_rfl
    have c4 : Tryz.prog.cellsOf 4 = 1 := by kernel_rfl
    obtain ⟨f0, y0, h0, _⟩ := trod_field_w Tryz.underlying53 h 0 rfl
    obtain ⟨f1, y1, h1, _⟩ := trod_field_w Tryz.underlying53 h 1 rfl
    obtain ⟨f2, y2, h2, _⟩ := trod_field_w Tryz.underlying53 h 2 rfl
    have h0 : DataW.trod enc Tryz.prog W base (fun _ => true) hd f0 9 (([a, b, c].drop 0).take (Tryz.prog.cellsOf 9)) = some y0 := h0
    have h1 : DataW.trod enc Tryz.prog W base (fun _ => true) hd f1 9 (([a, b, c].drop 1).take (Tryz.prog.cellsOf 9)) = some y1 := h1
    have h2 : DataW.trod enc Tryz.prog W base (fun _ => true) hd f2 4 (([a, b, c].drop 2).take (Tryz.prog.cellsOf 4)) = some y2 := h2
    rw [c9] at h0 h1
    rw [c4] at h2
    obtain ⟨s, rfl, _⟩ := trod_string Tryz.underlying9 h0
    obtain ⟨s', rfl, _⟩ := trod_string Tryz.underlying9 h1
    obtain ⟨d, rfl⟩ := trod_bool Tryz.underlying4 h2
    exact ⟨(s.data.toList, s'.data.toList, d), AV.relL_cons_cons.2 ⟨by simp only [AV.rel]; exact ⟨s, rfl, rfl⟩, AV.relL_cons_cons.2 ⟨by simp only [AV.rel]; exact ⟨s', rfl, rfl⟩, AV.relL_cons_cons.2 ⟨by simp only [AV.rel], AV.relL_nil.2 rfl⟩⟩⟩⟩
end
set_option maxHeartbeats 4000000 in
theorem law_lifted (os : Os) (started : os.Started) (H : Type) (enc : TypeId × Value → H) :
    ReturnsInHanded {} Tryz.checked os 3 .any (fun w args => (Rows.walPureSpec.pre enc Tryz.prog Tryz.f3 Rows.walPureRow.domain false w args ∧ laidMetH Tryz.prog Rows.walPureRow.laid w) ∧ sizedMet enc Tryz.prog Tryz.f3 (OpenSpec.ofChange Rows.walPureSpec) false w args) (Rows.walPureSpec.post enc Tryz.prog Tryz.f3 false true false false) := by
  refine returnsInHanded_of_change_and (C := Tryz.checked) (X := fun w _ => laidMetH Tryz.prog Rows.walPureRow.laid w) (fun _ _ _ hh h => h.of_heap hh) Tryz.own started (by kernel_rfl) Tryz.func3
    (ChangeSpec.witness_shaped (enc := enc) (C := Tryz.checked) (X := fun w _ => laidMetH Tryz.prog Rows.walPureRow.laid w) false (World.laidAll Tryz.prog os Rows.walPureRow.laid) #[.agg #[.int .i64 0, .slice none 0 0], .slice none 0 0, .int .i64 0] 8 (World.laidAll_os _ _ _) (World.shaped_of_ZipB (wit_z os) (wit_r os)) (wit_o os) (wit_p enc os) (wit_s enc os)
      (by rw [MakeChecks.laidMetH_plain _ _ _ wit_n]; exact laidMet_laidAll _ (wit_f os) (wit_i os))) ?_
  intro W base args ds gs before hval0 hW _ hwt hL _
  have hW' := hW
  obtain ⟨p, q, hA, hV, rfl, hfz, hnd⟩ := hW
  rw [Tryz.params3] at hA hval0
  obtain ⟨v0, vs0, d0, ds0, p0, q0, e0, rfl, rfl, h0, hA⟩ := trodAll_cons hA
  obtain ⟨v1, vs1, d1, ds1, p1, q1, rfl, rfl, rfl, h1, hA⟩ := trodAll_cons hA
  obtain ⟨v2, vs2, d2, ds2, p2, q2, rfl, rfl, rfl, h2, hA⟩ := trodAll_cons hA
  obtain ⟨rfl, rfl, rfl⟩ := trodAll_nil hA
  obtain ⟨rfl, rfl⟩ := trodVars_none hV
  obtain rfl : args = #[v0, v1, v2] := Array.toList_inj.1 e0
  have r0 := agg_shapeL (μ := noMu) (ts := [3, 22]) Tryz.underlying24 (by kernel_rfl) (by kernel_rfl) (hval0 0 24 v0 rfl rfl)
  obtain ⟨as0, cs0, hs0, rfl, hr0, hok0⟩ := r0
  obtain ⟨x0, rfl⟩ := shape0 hs0
  obtain ⟨x1, rfl⟩ := okWide_int Tryz.underlying3 (hval0 2 3 v2 rfl rfl)
  obtain ⟨fuel0, ht0⟩ := h0
  obtain ⟨fuel1, ht1⟩ := h1
  have hwe : ∀ x ∈ d0.weights Tryz.prog 24, x ≤ reachBytes := fun x hx => by
    rw [Tryz.params3] at hwt
    have := List.all_eq_true.1 hwt x (List.mem_append_left _ hx)
    simpa using this
  have hwe1 : ∀ x ∈ d1.weights Tryz.prog 25, x ≤ reachBytes := fun x hx => by
    rw [Tryz.params3] at hwt
    have := List.all_eq_true.1 hwt x (List.mem_append_right _ (List.mem_append_left _ hx))
    simpa using this
  obtain ⟨cA, hcA, _⟩ := (relL_get hr0).2 1 .junk rfl
  obtain ⟨fA, yA, htA, hwA⟩ := trod_field_w Tryz.underlying24 ht0 1 rfl
  have htA : DataW.trod enc Tryz.prog W 0 (fun _ => true) true fA 22 ((cs0.toList.drop 1).take (Tryz.prog.cellsOf 22)) = some yA := htA
  rw [show Tryz.prog.cellsOf 22 = 1 from by kernel_rfl, one_at hcA] at htA
  have okA : Cell.okWide Tryz.prog W .any base 22 cA := by
    obtain ⟨u, hu, hok⟩ := hok0 1 cA hcA
    injection hu with hu; subst hu; exact hok
  obtain ⟨lA, inA, wtA⟩ := slice_in (f := wrc) Tryz.underlying22 (by kernel_rfl) (by decide) (fun _ => rfl) el_wr okA htA
  obtain ⟨qA, fitA, pkA⟩ := inA.packG
  have hok1 : Value.okWide Tryz.prog W .any base 25 v1 := hval0 1 25 v1 rfl rfl
  have hok1' := hok1
  obtain ⟨sa1, sl1, sc1, rfl⟩ := okWide_slice Tryz.underlying25 hok1
  have okB : Cell.okWide Tryz.prog W .any base 25 (.slice sa1 sl1 sc1) := by simpa only [Value.okWide, Tryz.underlying25] using hok1'
  obtain ⟨lB, inB, wtB⟩ := slice_in (f := bcell) Tryz.underlying25 (by kernel_rfl) (by decide) (fun _ => rfl) el_u8 okB (show DataW.trod enc Tryz.prog W 0 (fun _ => true) true fuel1 25 [.slice sa1 sl1 sc1] = some (d1, p1) from ht1)
  obtain ⟨qB, fitB, pkB⟩ := inB.bytes
  have lenA : lA.length ≤ 140737488351232 := by
    have := wtA reachBytes fun x hx => hwe x (hwA x hx)
    have e : Tryz.prog.bytesOf 53 = 40 := by kernel_rfl
    rw [e] at this
    have e2 : reachBytes = 140737488351232 := rfl
    omega
  have lenB : lB.length ≤ 140737488351232 := by
    have := wtB reachBytes hwe1
    have e : Tryz.prog.bytesOf 5 = 1 := by kernel_rfl
    rw [e] at this
    have e2 : reachBytes = 140737488351232 := rfl
    omega
  have hfit : ∀ (i : Nat) (r : RowG), [qA, qB][i]? = some (some r) → ∀ μ, GoodRow μ W r := by
    intro i r e
    match i, e with
    | 0, e => injection e with e; exact fitA r e
    | 1, e => injection e with e; exact fitB r e
    | i + 2, e => simp at e
  obtain ⟨ts, us, hR, hb⟩ := rel_laidG hL wit_h (rs := [qA, qB]) hfit
  have hlen : (glBlks Tryz.prog Rows.walPureRow.laid ts us).length = 4 := by unfold glBlks; rw [List.length_map, List.length_range]; kernel_rfl
  have hrow : ∀ (i : Nat) (q : Option RowG), [qA, qB][i]? = some q → ∀ r, q = some r → muHG (glBlks Tryz.prog Rows.walPureRow.laid ts us) [qA, qB] W (4 + i) = some (r.1, r.2.1) ∧ (muHG (glBlks Tryz.prog Rows.walPureRow.laid ts us) [qA, qB] W).sz (4 + i) = rowSize W r.1 := fun i q e r hr => by
    subst hr
    have := muHG_row (gs := glBlks Tryz.prog Rows.walPureRow.laid ts us) (W := W) e
    rw [hlen] at this; exact this
  have hget : ∀ (i : Nat) (q : Option RowG), [qA, qB][i]? = some q → (Hg (glBlks Tryz.prog Rows.walPureRow.laid ts us ++ [qA, qB].map blkG)).get (4 + i) = blkG q := fun i q e => by
    rw [Hgg_get, hlen, if_neg (by omega), Nat.add_sub_cancel_left, List.getD_eq_getElem?_getD, e]; rfl
  have hnext : (Hg (glBlks Tryz.prog Rows.walPureRow.laid ts us ++ [qA, qB].map blkG)).next = 6 := by
    show (glBlks Tryz.prog Rows.walPureRow.laid ts us ++ [qA, qB].map blkG).length = 6
    rw [List.length_append, hlen]; rfl
  have hbase : (Hg (glBlks Tryz.prog Rows.walPureRow.laid ts us ++ [qA, qB].map blkG)).base = 6 := by
    show (glBlks Tryz.prog Rows.walPureRow.laid ts us ++ [qA, qB].map blkG).length = 6
    rw [List.length_append, hlen]; rfl
  have hsub : Sub (HgLit ts us) (Hg (glBlks Tryz.prog Rows.walPureRow.laid ts us ++ [qA, qB].map blkG)) := by
    refine ⟨rfl, by rw [hbase]; show 4 ≤ 6; decide, fun id hid => ?_⟩
    have hid : id < 4 := hid
    rw [← hg_is, Hg_get, Hgg_get, hlen, if_pos hid]
  obtain ⟨aA, relA, rowA⟩ := pkA (4 + 0)
  obtain ⟨aB, relB, rowB⟩ := pkB (4 + 1)
  generalize hH : Hg (glBlks Tryz.prog Rows.walPureRow.laid ts us ++ [qA, qB].map blkG) = hI at hR hb hget hnext hbase hsub
  generalize hM : muHG (glBlks Tryz.prog Rows.walPureRow.laid ts us) [qA, qB] W = μ at hR hb hrow
  have up : ∀ {ls : List AV} {vs : Array Value}, AV.relL noMu ls vs.toList → AV.relL μ ls vs.toList := fun {ls vs} h => by
    have h1 : AV.rel noMu (.agg ls) (.agg vs) := by simp only [AV.rel]; exact ⟨vs, rfl, h⟩
    have h2 := AV.rel_mono (μ' := μ) (fun _ _ h => by cases h) (.agg ls) (.agg vs) h1
    simp only [AV.rel] at h2
    obtain ⟨vs', e, h3⟩ := h2
    injection e with e; subst e; exact h3
  have ra0 : AV.rel μ (.agg [.int .i64 x0, aA]) (.agg cs0) := by
    simp only [AV.rel]
    exact ⟨cs0, rfl, relL_set («as» := [.int .i64 x0, .junk]) 1 (up hr0) fun v hv => by rw [hcA] at hv; injection hv with hv; subst hv; exact relA μ (hrow 0 _ rfl)⟩
  have ra1 : AV.rel μ aB (.slice sa1 sl1 sc1) := relB μ (hrow 1 _ rfl)
  have main : Calls Tryz.prog 3 #[.agg cs0, .slice sa1 sl1 sc1, .int .i64 x1] W fun e W' => e = .returned (.bool true) ∧ Below W.heap.size W W' :=
    law q3_ok (fun args w => by simp) («as» := [.agg [.int .i64 x0, aA], aB, .int .i64 x1])
      (w3_of (ts := ts) (us := us) (fun h' lo => hsub.low lo (by rw [hnext]; show 4 ≤ 6; decide)) (.of (rowA hI (hget 0 qA rfl) (by rw [hnext]; decide))) (rowB hI (hget 1 qB rfl)) (by rw [hnext, hbase]; exact Nat.le_refl _) lenA lenB) hb hR
      (AV.relL_cons_cons.2 ⟨ra0, AV.relL_cons_cons.2 ⟨ra1, AV.relL_cons_cons.2 ⟨by simp only [AV.rel], AV.relL_nil.2 rfl⟩⟩⟩)
  refine main.mono fun e W' ⟨he, hbb⟩ => ?_
  subst he
  exact ⟨_, rfl, post_of_below rfl Tryz.laidOut (pars_ok (by rw [Tryz.params3]; kernel_rfl)) hW' hbb rfl rfl (fun b sp hd => bool_res (t := 4) (by kernel_rfl) Tryz.underlying4 true b sp hd)⟩
end Go.Proofs.YtcohflkjinpcpaaGreatDoor
