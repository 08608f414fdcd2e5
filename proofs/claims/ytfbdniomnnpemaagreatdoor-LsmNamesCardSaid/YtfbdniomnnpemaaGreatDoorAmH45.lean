/- (*Store).turn: the tables that were made are put to the others, whatever the order. -/
import Derived.Test.YtfbdniomnnpemaaGreatDoorAmS7
namespace Go.Proofs.YtfbdniomnnpemaaGreatDoor
open Go Go.Am
set_option linter.all false
set_option maxRecDepth 100000
/-- behind the range -/
noncomputable def tail45 (J : Joins) (c99 : AV → AV → H → (Int → H → Prop) → Prop) (k : Int → H → Prop) : AV × AV × AV × Unit → List Dfr → H → Prop := fun v13 d14 h18 =>
faK 0 v13.2.1 fun p32 =>
ldV p32 h18 fun v33 =>
lenK v33 fun x34 =>
J.lp (α := AV × AV × AV × AV × Unit) (fun r38 v35 d36 h37 =>
asI .i64 v35.2.2.2.1 fun x39 =>
asI .i64 v35.2.2.1 fun x40 =>
fB (ltI x39 x40) fun b41 =>
br b41 (
ixK 1 v35.2.1 v35.2.2.2.1 fun p42 =>
ldI .i64 p42 h37 fun x43 =>
okNil v35.1 (
faK 9 v35.1 fun p44 =>
ldV p44 h37 fun v45 =>
delK (mapBlkD ty 3 v45 (AV.int .i64 x43) h37) h37 fun h47 =>
asI .i64 v35.2.2.2.1 fun x48 =>
fI (wrapF .i64 (Int.add x48 (Int.ofNat 1))) fun x49 =>
r38 (v35.1, v35.2.1, v35.2.2.1, (AV.int .i64 x49), ()) d36 h47)) (
leaveK (gam J [(99, w99 c99)]) d36 h37 fun h50 =>
k (Int.ofNat 0) h50)) (v13.1, v33, (AV.int .i64 (Int.ofNat x34)), (AV.int .i64 (Int.ofNat 0)), ()) d14 h18
noncomputable def body45 (J : Joins) (c99 : AV → AV → H → (Int → H → Prop) → Prop) (k : Int → H → Prop) : (AV × AV × AV × Unit → List Dfr → H → Prop) → AV × AV × AV × Unit → List Dfr → H → Prop := fun r16 v13 d14 h15 =>
aNext v13.2.2.1 h15 fun v17 h18 =>
asTup v17 fun l19 =>
op' (lgetO l19 0) fun v20 =>
asB v20 fun b21 =>
br b21 (
op' (aEntry v13.2.2.1 h18) fun v22 =>
asTup v22 fun l23 =>
op' (lgetO l23 0) fun v24 =>
asI .i64 v24 fun x25 =>
asTup v22 fun l26 =>
op' (lgetO l26 1) fun v27 =>
okNil v13.1 (
faK 9 v13.1 fun p28 =>
ldV p28 h18 fun v29 =>
op' (mapBlk ty 3 v29 (AV.int .i64 x25) v27 h18) fun k30 =>
putK k30.1 k30.2 h18 fun h31 =>
r16 (v13.1, v13.2.1, v13.2.2.1, ()) d14 h31)) (tail45 J c99 k v13 d14 h18)
theorem s45G_is (c99 : AV → AV → H → (Int → H → Prop) → Prop) (a0 a1 a2 : AV) (h : H) (k : Int → H → Prop) : s45G J0 c99 a0 a1 a2 h k = Go.Am.asAgg a1 fun l3 => pushK (.cells false 101 l3) h fun n1 h2 => okNil a0 (faK 6 a0 fun p4 => ldV p4 h2 fun v5 => ldN 5 (AV.ptr n1 0) h2 fun l6 =>
    c99 v5 (AV.agg l6) h2 fun x9 h8 => fB (Bool.not (eqI x9 (Int.ofNat 0))) fun b10 => br b10 (k x9 h8) (aRangeK a2 h8 fun v11 h12 => J0.lp (body45 J0 c99 k) (a0, (AV.ptr n1 0), v11, ()) [] h12)) := by
  kernel_rfl
theorem kd3i : (ty 3).kd = .int .i64 := by kernel_rfl
noncomputable def smM (v : AV) (h : H) (k : Nat → List (AV × AV) → Prop) : Prop :=
  match v with
  | .map id => match h.get id with
    | .smap es => k id es
    | _ => False
  | _ => False
theorem smM_imp {v : AV} {h : H} {k : Nat → List (AV × AV) → Prop} (e : smM v h k) : ∃ id es, v = .map id ∧ h.get id = .smap es ∧ k id es := by
  unfold smM at e
  split at e
  · split at e
    · exact ⟨_, _, rfl, by assumption, e⟩
    · exact e.elim
  · exact e.elim
/-- the range, as it may be run -/
noncomputable def rng45 (c99 : AV → AV → H → (Int → H → Prop) → Prop) (a0 : AV) (n1 : Nat) (a2 : AV) (h8 : H) (k : Int → H → Prop) : Prop :=
  smM a2 h8 fun m es => Go.Am.asPtr a0 fun i o => asRow' (h8.get i) (fun _ _ cs => op' (lgetO cs (Nat.add o 9)) fun v29 => smM v29 h8 fun f acc0 =>
    ck (Bool.not (Nat.beq m f)) (ck (Nat.ble h8.base m) (ck (Nat.ble h8.base f) (ck (Nat.ble es.length 1000000) (insK es acc0 fun kept =>
      pushK .dead h8 fun r hb => putK f (.smap kept) hb fun hc => tail45 J0 c99 k (a0, (AV.ptr n1 0), (AV.ptr r 0), ()) [] hc))))) fun _ _ _ _ => False
theorem rng45_imp {c99 : AV → AV → H → (Int → H → Prop) → Prop} {a0 : AV} {n1 : Nat} {a2 : AV} {h8 : H} {k : Int → H → Prop} (q : rng45 c99 a0 n1 a2 h8 k) : aRangeK a2 h8 fun v11 h12 => J0.lp (body45 J0 c99 k) (a0, (AV.ptr n1 0), v11, ()) [] h12 := by
  unfold rng45 at q
  obtain ⟨m, es0, rfl, hgm, q⟩ := smM_imp q
  rw [Go.Am.asPtr_iff] at q
  obtain ⟨i, o, rfl, q⟩ := q
  rw [asRow'_iff] at q
  rcases q with ⟨mv, t, cs, hgi, q⟩ | ⟨_, _, _, _, _, q⟩
  rotate_left
  · exact q.elim
  rw [op'_iff] at q
  obtain ⟨v29, hv, q⟩ := q
  obtain ⟨f, acc0, rfl, hgf, q⟩ := smM_imp q
  simp only [ck_iff, ble_iff] at q
  obtain ⟨hmf, hmb, hfb, hlen, q⟩ := q
  have hmf : m ≠ f := fun e => by subst e; rw [show Nat.beq m m = true by rw [Nat.beq_eq]] at hmf; cases hmf
  obtain ⟨q, k1, k2, k3, k4⟩ := insK_imp q
  rw [pushK_iff] at q
  obtain ⟨r, hb, hp, q⟩ := q
  have hml : m < h8.next := H.lt_of_live (by rw [hgm]; rfl)
  have hfl : f < h8.next := H.lt_of_live (by rw [hgf]; rfl)
  have hwf : h8.Wf := ⟨by omega⟩
  obtain ⟨rfl, nb, bb, _, gb⟩ := H.push_some hp hwf
  rw [putK_iff] at q
  obtain ⟨hc, hpc, q⟩ := q
  obtain ⟨_, _, nc, bc, gc⟩ := hput_get hpc
  unfold aRangeK
  simp only [hgm]
  intro es clock hs
  obtain ⟨h1, p1⟩ := put_ok (h := h8) (i := m) (.amap es clock) hml hmb
  obtain ⟨_, _, n1', b1, g1⟩ := hput_get p1
  obtain ⟨h2, p2⟩ := push_ok h1 (.miter (some m) clock [] clock)
  obtain ⟨_, n2, b2, _, g2⟩ := H.push_some p2 ⟨by omega⟩
  rw [p1]
  simp only [p2]
  rw [J0.lp_ok]
  rw [n1'] at g2 ⊢
  have him : i ≠ m := fun e => by rw [e, hgm] at hgi; cases hgi
  have hif : i ≠ f := fun e => by rw [e, hgf] at hgi; cases hgi
  have hir : i ≠ h8.next := by
    have : i < h8.next := H.lt_of_live (by rw [hgi]; rfl)
    omega
  refine range_ins (T := ty) (kt := 3) kd3i (m := m) (r := h8.next) (f := f) (es0 := es0) (acc0 := acc0) (hB := h8) (hc := hc) hgm hmf hmb hfb hml hfl rfl (by omega) (by omega) (by rw [gc, if_pos rfl]) (by rw [gc, if_neg (by omega), gb, if_pos rfl]) (fun id e1 e2 => by rw [gc, if_neg e2, gb, if_neg e1]) k1 k2 k3 k4
    (st := fun x v h K => okNil (.ptr i o) (faK 9 (.ptr i o) fun p28 => ldV p28 h fun v29 => op' (mapBlk ty 3 v29 (AV.int .i64 x) v h) fun k30 => putK k30.1 k30.2 h K)) (fun x v h K hs hK => ?_)
    (E := fun h => tail45 J0 c99 k (.ptr i o, .ptr n1 0, .ptr h8.next 0, ()) [] h) q (self := fun j h => loopN (body45 J0 c99 k) j (.ptr i o, .ptr n1 0, .ptr h8.next 0, ()) [] h) (fun j h => rfl)
    es0.length fuel (by unfold fuel; omega) [] h2 [] ⟨?_, ?_, ?_, hs, fun id e1 e2 e3 => ?_, by omega, by omega⟩ (by rw [rest_all]; have := hs.perm.length_eq; simpa using this) (by rw [rest_all]; exact hs.perm)
  · have hg : h.get i = .cells mv t cs := (hs i him hir hif).trans hgi
    rw [okNil_ptr, faK_ptr, ldV_at hg hv]
    exact hK
  · rw [g2, if_neg (by omega), g1, if_pos rfl]
  · rw [g2, if_pos rfl]
  · rw [g2, if_neg (by omega), g1, if_neg (fun e => hmf e.symm)]; exact hgf
  · rw [g2, if_neg e2, g1, if_neg e1]
/-- turn, as it may be run -/
noncomputable def s45' (a0 a1 a2 : AV) (h : H) (k : Int → H → Prop) : Prop := Go.Am.asAgg a1 fun l3 => pushK (.cells false 101 l3) h fun n1 h2 => okNil a0 (faK 6 a0 fun p4 => ldV p4 h2 fun v5 => ldN 5 (AV.ptr n1 0) h2 fun l6 =>
    s99 v5 (AV.agg l6) h2 fun x9 h8 => fB (Bool.not (eqI x9 (Int.ofNat 0))) fun b10 => br b10 (k x9 h8) (rng45 up99 a0 n1 a2 h8 k))
theorem s45'_imp {a0 a1 a2 : AV} {h : H} {k : Int → H → Prop} (q : s45' a0 a1 a2 h k) : s45G J0 up99 a0 a1 a2 h k := by
  rw [s45G_is]
  unfold s45' at q
  refine Go.Am.asAgg_mono (fun l3 q => ?_) q
  refine Go.Am.pushK_mono (fun n1 h2 q => ?_) q
  refine Go.Am.okNil_mono (fun q => ?_) q
  refine Go.Am.faK_mono (fun p4 q => ?_) q
  refine Go.Am.ldV_mono (fun v5 q => ?_) q
  refine Go.Am.ldN_mono (fun l6 q => ?_) q
  refine ⟨_, q, fun x9 h8 q => ?_⟩
  refine Go.Am.fB_mono (fun b10 q => ?_) q
  exact Go.Am.br_mono (fun q => q) rng45_imp q
noncomputable def g45' : Fun := w45 s45'
theorem g45'_ok : FunOk Tryz.prog 45 g45' :=
  (fun_ok ty_ok mixed (gam_ok (J := J0) (tab_cons up99_ok (tab_nil fls_fun))) Tryz.func45 (fun args w => by simp)).imp fun xs h k e0 => by
    obtain ⟨a0, xs0, rfl, e1⟩ := arg_imp e0
    obtain ⟨a1, xs1, rfl, e2⟩ := arg_imp e1
    obtain ⟨a2, xs2, rfl, e3⟩ := arg_imp e2
    obtain ⟨rfl, e4⟩ := noArg_imp e3
    exact (s45_eq J0 up99 a0 a1 a2 h _).mpr (s45'_imp e4)
end Go.Proofs.YtfbdniomnnpemaaGreatDoor
