/- The keys of a map, sorted; Names. No condition. -/
import Derived.Test.YtiejkbmobmgdkaaSoH
namespace Go.Am
open Go
set_option linter.all false
theorem ranks {L l0 : List Str} (hp : L.Perm l0) (hd : l0.Pairwise (· ≠ ·)) : ∃ R : Nat → Nat, (∀ i, i < l0.length → R i < l0.length ∧ L[i]? = l0[R i]?) ∧ InjN l0.length R := by
  have hl := hp.length_eq
  have ex : ∀ i, i < l0.length → ∃ j, j < l0.length ∧ L[i]? = l0[j]? := fun i hi => by
    have hm : L[i]'(by omega) ∈ l0 := hp.mem_iff.1 (List.getElem_mem _)
    obtain ⟨j, hj, e⟩ := List.mem_iff_getElem.1 hm
    exact ⟨j, hj, by rw [List.getElem?_eq_getElem (by omega), List.getElem?_eq_getElem hj, e]⟩
  refine ⟨fun i => if h : i < l0.length then Classical.choose (ex i h) else 0, fun i hi => ?_, fun i j hi hj e => ?_⟩
  · simp only [hi, dif_pos]
    exact Classical.choose_spec (ex i hi)
  · simp only [hi, hj, dif_pos] at e
    have h1 := (Classical.choose_spec (ex i hi)).2
    have h2 := (Classical.choose_spec (ex j hj)).2
    rw [e, ← h2] at h1
    have hdL : L.Pairwise (· ≠ ·) := (hp.pairwise_iff (R := (· ≠ ·)) (fun h => Ne.symm h)).2 hd
    rw [List.pairwise_iff_getElem] at hdL
    rw [List.getElem?_eq_getElem (by omega), List.getElem?_eq_getElem (by omega)] at h1
    injection h1 with h1
    by_cases hij : i < j
    · exact absurd h1 (hdL i j (by omega) (by omega) hij)
    · by_cases hji : j < i
      · exact absurd h1.symm (hdL j i (by omega) (by omega) hji)
      · omega
theorem map_range {α β : Type} (l : List α) (d : α) (f : α → β) : (List.range l.length).map (fun k => f (l.getD k d)) = l.map f := by
  apply List.ext_getElem
  · simp
  · intro i h1 h2
    simp at h1 h2
    simp [List.getD_eq_getElem?_getD, h2]
/-- names, as they are handed out -/
def NmAt (h : H) (v : AV) (l : List (List UInt8)) : Prop := (l = [] ∧ v = .nils) ∨ ∃ b mv, v = .slice b 0 l.length l.length 1 false ∧ h.get b = .cells mv 9 (l.map fun s => AV.str (Str.of s))
end Go.Am
namespace Go.Proofs.Ytiejkbmobmgdkaa
open Go Go.Am
set_option linter.all false
set_option maxRecDepth 100000
noncomputable def s44F : AV → H → (AV → H → Prop) → Prop := s44G J0 s51 s52
theorem g44F_ok : FunOk Try.prog 44 (w44 s44F) := (fun_ok ty_ok mixed (gam_ok (J := J0) (tab_cons g51_ok (tab_cons g52_ok (tab_nil fls_fun)))) Try.func44 (fun args w => by simp)).imp fun xs h k e0 => by
  obtain ⟨a0, xs0, rfl, e1⟩ := arg_imp e0
  obtain ⟨rfl, e2⟩ := noArg_imp e1
  exact (s44_eq J0 s51 s52 a0 h k).mpr e2
theorem q44 {h : H} {p m : Nat} {names : List (List UInt8 × Int)} {k : AV → H → Prop} (hw : h.base ≤ h.next) (gp : h.get p = .cells false 55 [.map m]) (gm : h.get m = .smap (names.map nameE)) (hb : h.base ≤ m) (ns : NS names) (hl : names.length ≤ 255)
    (hk : ∀ v h', Only noL h h' → NmAt h' v (names.map (·.1)) → k v h') : s44F (.func (.func 53) [] [.ptr p 0]) h k := by
  unfold s44F
  rw [s44_is]
  let l0 : List Str := names.map fun q => Str.of q.1
  have hl0 : l0.length = names.length := by simp [l0]
  have hkeys : (names.map nameE).map (·.1) = l0.map AV.str := by simp [l0, nameE, List.map_map, Function.comp_def]
  refine s55_ok (es := names.map nameE) (l0 := l0) ⟨hw⟩ ?_ gm hb hkeys (by omega) fun L h' v hp hn' hb' hlow hrow => ?_
  · unfold ldP
    rw [asPtr_ptr, gp, asRow_cells]
    show op' (some (AV.map m)) _
    rw [op'_some]
  have o1 : Only noL h h' := ⟨hb', by omega, fun i hi _ => hlow i hi, fun i t f g s e => hlow i (H.lt_of_live (by rw [e]; rfl))⟩
  have hlen := hp.length_eq
  have hlt : ∀ i j, i < l0.length → j < l0.length → Str.lt (l0.getD i ⟨0, 0⟩) (l0.getD j ⟨0, 0⟩) = decide (i < j) := by
    intro i j hi hj
    have e : ∀ i (hi : i < l0.length), l0.getD i ⟨0, 0⟩ = Str.of (names[i]'(by omega)).1 := fun i hi => by
      rw [List.getD_eq_getElem?_getD, List.getElem?_eq_getElem hi]; simp [l0]
    rw [e i hi, e j hj, Str.lt_of]
    have nsG := List.pairwise_iff_getElem.1 ns
    by_cases hij : i < j
    · rw [decide_eq_true hij]; exact nsG i j (by omega) (by omega) hij
    · rw [decide_eq_false hij]
      by_cases e' : i = j
      · subst e'; exact bl_irr _
      · have h1 := nsG j i (by omega) (by omega) (by omega)
        cases hb2 : Op.bytesLess (names[i]'(by omega)).1 (names[j]'(by omega)).1 with
        | false => rfl
        | true => have := bl_trans h1 hb2; rw [bl_irr] at this; cases this
  have os : OrdS (fun k => l0.getD k ⟨0, 0⟩) l0.length := ⟨hlt⟩
  have hd : l0.Pairwise (· ≠ ·) := by
    rw [List.pairwise_iff_getElem]
    intro i j hi hj hij e
    have := hlt i j hi hj
    rw [List.getD_eq_getElem?_getD, List.getD_eq_getElem?_getD, List.getElem?_eq_getElem hi, List.getElem?_eq_getElem hj, Option.getD_some, Option.getD_some, e, decide_eq_true hij] at this
    have h2 := hlt j j hj hj
    rw [List.getD_eq_getElem?_getD, List.getElem?_eq_getElem hj, Option.getD_some, decide_eq_false (Nat.lt_irrefl j)] at h2
    rw [h2] at this; cases this
  rcases hrow with ⟨rfl, rfl⟩ | ⟨hne, rfl, hr⟩
  · have hn0 : names = [] := List.length_eq_zero_iff.1 (by rw [← hl0, ← hlen]; rfl)
    rw [s52_nil]
    exact hk _ h' o1 (.inl ⟨by rw [hn0]; rfl, rfl⟩)
  · obtain ⟨R, hR1, hR2⟩ := ranks hp hd
    have hpos : 0 < L.length := List.length_pos_iff.2 hne
    have eL : L.map AV.str = (List.range l0.length).map fun k => AV.str (l0.getD (R k) ⟨0, 0⟩) := by
      apply List.ext_getElem
      · simp [hlen]
      · intro i h1 h2
        simp at h1 h2
        have := (hR1 i (by omega)).2
        rw [List.getElem?_eq_getElem h1, List.getElem?_eq_getElem (hR1 i (by omega)).1] at this
        injection this with this
        simp [this, List.getD_eq_getElem?_getD, List.getElem?_eq_getElem (hR1 i (by omega)).1]
    rw [hlen]
    rw [eL] at hr
    have r0 : RowR (fun k => l0.getD k ⟨0, 0⟩) (h'.next - 1) l0.length h' R h' := ⟨⟨_, hr⟩, Only.refl _ _, by omega, by omega⟩
    refine q52 os (by omega) r0 (fun x hx => (hR1 x hx).1) hR2 fun h2 r2 => ?_
    obtain ⟨mv, g2⟩ := r2.get
    have o2 : Only noL h h2 := o1.trans r2.o fun i hi e => by omega
    refine hk _ h2 o2 (.inr ⟨h'.next - 1, mv, by simp [l0], ?_⟩)
    rw [g2, map_range l0 ⟨0, 0⟩ AV.str]
    simp [l0, List.map_map, Function.comp_def]
noncomputable def s26F : AV → H → (AV → H → Prop) → Prop := s26G J0 s34 s35 s44F s45
theorem g26F_ok : FunOk Try.prog 26 (w26 s26F) := (fun_ok ty_ok mixed (gam_ok (J := J0) (tab_cons g34_ok (tab_cons g35_ok (tab_cons g44F_ok (tab_cons g45_ok (tab_nil fls_fun)))))) Try.func26 (fun args w => by simp)).imp fun xs h k e0 => by
  obtain ⟨a0, xs0, rfl, e1⟩ := arg_imp e0
  obtain ⟨rfl, e2⟩ := noArg_imp e1
  exact (s26_eq J0 s34 s35 s44F s45 a0 h k).mpr e2
theorem p26 {h : H} {g : FsG} {fs : Fs} {N c : Nat} {k : AV → H → Prop} (f : FsAt h g fs) (i : Am.Inv fs N c) (hN : N ≤ mostRoom) (hc : c ≤ 255) (hk : ∀ v h', FsAt h' g fs → Only noL h h' → NmAt h' v (if fs.off then [] else fs.held.names.map (·.1)) → k v h') : s26F (.ptr g.id 0) h k := by
  unfold s26F s26G
  refine p34 (l := []) f (.inl ⟨rfl, rfl⟩) (by show 0 < 4611686018427387904; omega) ?_
  refine fB_r ?_
  refine br_intro (fun h0 => ?_) fun h0 => ?_
  · have h0 : fs.asked [] ≠ 0 := eqI_false.1 (Am.not_true.1 h0)
    have ho : fs.off = true := by
      cases e : fs.off with
      | true => rfl
      | false => exact absurd (asked_on e rfl) h0
    rw [ho] at hk
    exact hk _ h f (Only.refl _ _) (.inl ⟨rfl, rfl⟩)
  · have h0 : fs.asked [] = 0 := eqI_true.1 (not_false'.1 h0)
    have ho := (asked_zero h0).1
    rw [ho] at hk
    refine p35 f (i.fit.mono hN) fun h4 mf mn t4 hmf hmn o4 => ?_
    rw [asAgg_agg]
    show op' (some (AV.map mn)) _
    rw [op'_some]
    show s45G J0 s53 _ _ _
    unfold s45G
    refine ck_intro rfl (push_r fun h8 o8 n8 g8 => ?_)
    have t8 := t4.only o8 id id
    have o48 := o4.trans o8 fun _ _ => id
    refine q44 t8.wf g8 t8.names t8.bn i.held.ns (Nat.le_trans i.held.len hc) fun v h9 o9 nm => ?_
    have o := o48.trans o9 fun _ _ => id
    exact hk v h9 (f.only o fun _ _ => id) o nm
end Go.Proofs.Ytiejkbmobmgdkaa
