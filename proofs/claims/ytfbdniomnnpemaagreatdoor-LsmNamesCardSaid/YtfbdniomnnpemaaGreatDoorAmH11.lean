/- (*Store).Compact, where at most one number of snapshots is kept. -/
import Derived.Test.YtfbdniomnnpemaaGreatDoorAmS10
namespace Go.Proofs.YtfbdniomnnpemaaGreatDoor
open Go Go.Am
set_option linter.all false
set_option maxRecDepth 100000
set_option maxHeartbeats 1000000 in
theorem s11T_up {k : Int → H → Prop} {v : AV × AV × AV × AV × AV × AV × AV × AV × Unit} {d : List Dfr} {h : H} : s11Tr k v d h → s11Tu k v d h := by
  unfold s11Tr s11Tu s11T
  repeat' first
    | with_reducible exact fun q => q
    | with_reducible refine upF_in fun _ _ => ?_
    | with_reducible refine Go.Am.br_mono ?_ ?_
    | with_reducible refine Go.Am.asI_mono fun _ => ?_
    | with_reducible refine Go.Am.ldV_mono fun _ => ?_
    | with_reducible refine Go.Am.ldI_mono fun _ => ?_
    | with_reducible refine Go.Am.op_mono fun _ => ?_
    | with_reducible refine Go.Am.fB_mono fun _ => ?_
    | with_reducible refine Go.Am.fI_mono fun _ => ?_
    | with_reducible refine Go.Am.asTup_mono fun _ => ?_
    | with_reducible refine Go.Am.stV_mono fun _ => ?_
    | with_reducible refine Go.Am.jn_mono (fun _ _ => ?_) fun _ _ _ => ?_
    | with_reducible refine Go.Am.asBU_mono (fun _ => ?_) ?_
    | with_reducible refine Go.Am.pushK_mono fun _ _ => ?_
    | with_reducible refine Go.Am.okNil_mono ?_
    | with_reducible refine leave_up1 fun _ => ?_
    | with_reducible refine Go.Am.ldN_mono fun _ => ?_
    | with_reducible refine Go.Am.faK_mono fun _ => ?_
    | with_reducible refine Go.Am.ck_mono ?_
    | with_reducible refine Go.Am.lenK_mono fun _ => ?_
    | with_reducible refine Go.Am.asS_mono fun _ => ?_
    | with_reducible refine Go.Am.stN_mono fun _ => ?_
    | with_reducible refine Go.Am.ixK_mono fun _ => ?_
    | with_reducible refine Go.Am.lp_mono fun _ _ _ _ _ _ => ?_
    | with_reducible refine Go.Am.pickB_mono fun _ => ?_
    | with_reducible refine Go.Am.apC_mono fun _ _ => ?_
    | with_reducible refine Go.Am.asB_mono fun _ => ?_
    | with_reducible refine Go.Am.jd_mono (fun _ _ _ => ?_) fun _ _ _ => ?_
    | with_reducible refine Go.Am.asAgg_mono fun _ => ?_
    | with_reducible refine Go.Am.slK_mono fun _ => ?_
    | (intro q; with_reducible solve_by_elim)
/-- the range, as it may be run -/
noncomputable def rng11 (k : Int → H → Prop) (x : AV) (y : AV → AV × AV × AV × AV × AV × AV × AV × AV × Unit) (d : List Dfr) (h : H) : Prop :=
  rng1 x h (fun v h => s11Tr k (y v) d h) fun v a b h => asI .i64 a fun xa => asI .i64 b fun n => fB (ltI (Int.ofNat 0) n) fun c => br c
    (pushK (.cells false 3 [(AV.int .i64 xa)]) h fun n2 h2 => apC 3 1 8 (y v).2.2.2.2.2.2.1 (AV.slice n2 0 1 1 1 true) h2 fun w h3 => s11Tr k ((y v).1, (y v).2.1, (y v).2.2.1, (y v).2.2.2.1, (y v).2.2.2.2.1, (y v).2.2.2.2.2.1, w, (y v).2.2.2.2.2.2.2.1, ()) d h3)
    (s11Tr k (y v) d h)
theorem rng11_imp {k : Int → H → Prop} {x b1 b2 b3 b4 b5 b6 : AV} {i : Nat} {d : List Dfr} {h : H} (q : rng11 k x (fun v => (b1, b2, b3, b4, b5, b6, AV.slice i 0 1 1 1 true, v, ())) d h) :
    aRangeK x h fun v h => J0.lp (s11Bu k) (b1, b2, b3, b4, b5, b6, AV.slice i 0 1 1 1 true, v, ()) d h := by
  refine rng1_imp (y := fun v => (b1, b2, b3, b4, b5, b6, AV.slice i 0 1 1 1 true, v, ())) (fun m r es es0 clock h1 hb j hw it e0 e1 hm hmb hr hrb bt gm gr q => ?_) (fun m r a b s clock h1 hb j hw it hm hmb hr hrb bt gm gr q => ?_) q
  · subst e0 e1
    show s11B J0 _ _ _ _ _ _ _ _ _ _ _ _ _ _ _ _ k _ _ d h1
    unfold s11B
    exact it.last (fun e he => by cases he) hm hmb hr hrb bt gm gr (s11T_up q)
  · obtain ⟨self, hself⟩ : ∃ self, self = s11Bu k (loopN (s11Bu k) j) := ⟨_, rfl⟩
    rw [← hself]
    have fin : ∀ (w : AV) (h2 hb2 : H), Iter m r [(a, b)] [(a, b, s)] clock [s] h2 → m < h2.next → h2.base ≤ m → r < h2.next → h2.base ≤ r → But m r hb2 h2 → hb2.get m = .smap [(a, b)] → hb2.get r = .dead → s11Tr k (b1, b2, b3, b4, b5, b6, w, AV.ptr r 0, ()) d hb2 → self (b1, b2, b3, b4, b5, b6, w, AV.ptr r 0, ()) d h2 := fun w h2 hb2 it2 hm hmb hr hrb bt gm gr q => by
      rw [hself]
      show s11B J0 _ _ _ _ _ _ _ _ _ _ _ _ _ _ _ _ k _ _ d h2
      unfold s11B
      exact it2.last (fun e he => by rcases List.mem_cons.1 he with rfl | he; exact List.mem_cons_self; cases he) hm hmb hr hrb bt gm gr (s11T_up q)
    show s11B J0 _ _ _ _ _ _ _ _ _ _ _ _ _ _ _ _ k self _ d h1
    unfold s11B
    refine it.first hr hrb bt fun h' it' hent bt' n1 c1 => ?_
    rw [asI_iff] at q
    obtain ⟨xa, rfl, q⟩ := q
    rw [asI_iff] at q
    obtain ⟨nb, rfl, q⟩ := q
    show op' (aEntry (.ptr r 0) h') _
    rw [hent, op'_iff]
    refine ⟨_, rfl, ?_⟩
    rw [asTup_iff]
    refine ⟨_, rfl, ?_⟩
    rw [op'_iff]
    refine ⟨_, rfl, ?_⟩
    rw [asI_iff]
    refine ⟨xa, rfl, ?_⟩
    rw [asTup_iff]
    refine ⟨_, rfl, ?_⟩
    rw [op'_iff]
    refine ⟨_, rfl, ?_⟩
    rw [asI_iff]
    refine ⟨nb, rfl, ?_⟩
    rw [fB_eq] at q ⊢
    rw [br_iff] at q ⊢
    rcases q with ⟨c, q⟩ | ⟨c, q⟩
    · refine .inl ⟨c, ?_⟩
      rw [pushK_iff] at q ⊢
      obtain ⟨n2, g, p, q⟩ := q
      have hwb : hb.Wf := ⟨by rw [← bt.next, ← bt.base]; exact hw.low⟩
      obtain ⟨g', p', bt2, wg, em, er, hm2, hr2, hb2⟩ := bt'.push hwb (by rw [← bt.next]; exact hm) (by rw [← bt.next]; exact hr) p
      obtain ⟨e2, e3, e4, _, e5⟩ := H.push_some p hwb
      have gmg : g.get m = .smap [(.int .i64 xa, .int .i64 nb)] := by rw [e5, if_neg (by have := bt.next; omega)]; exact gm
      have grg : g.get r = .dead := by rw [e5, if_neg (by have := bt.next; omega)]; exact gr
      have gn : g.get n2 = .cells false 3 [.int .i64 xa] := by rw [e5, if_pos e2]
      obtain ⟨mv, t, cs, old, hg, q1, q2, j2, h3, p3, q⟩ := apC_grow gn q
      have him : i ≠ m := fun e => by rw [e, gmg] at hg; cases hg
      have hir : i ≠ r := fun e => by rw [e, grg] at hg; cases hg
      obtain ⟨h3', p3', bt3, wg3, em3, er3, hm3, hr3, hb3⟩ := bt2.push wg hm2 hr2 p3
      obtain ⟨f2, f3, f4, _, f5⟩ := H.push_some p3 wg
      refine ⟨n2, g', p', ?_⟩
      refine apC_grow' (by rw [bt2.get _ (by have := bt.next; omega) (by have := bt.next; omega)]; exact gn) (by rw [bt2.get _ him hir]; exact hg) q1 q2 p3' ?_
      refine fin _ h3' h3 ⟨by rw [em3, em]; exact it'.mp, by rw [er3, er]; exact it'.it, it'.shown⟩ (by rw [bt3.next]; exact hm3) (by rw [bt3.base, hb3, hb2, ← bt.base]; exact hmb) (by rw [bt3.next]; exact hr3) (by rw [bt3.base, hb3, hb2, ← bt.base]; exact hrb) bt3 (by rw [f5, if_neg (by omega)]; exact gmg) (by rw [f5, if_neg (by omega)]; exact grg) q
    · exact .inr ⟨c, fin _ h' hb it' (by omega) (by omega) (by omega) (by omega) bt' gm gr q⟩
/-- Compact, as it may be run -/
noncomputable def s11' (a0 : AV) (a1 : Int) (h : H) (k : Int → H → Prop) : Prop := s11Hr (rng11 k) a0 a1 h k
set_option maxHeartbeats 1000000 in
theorem s11'_imp {a0 : AV} {a1 : Int} {h : H} {k : Int → H → Prop} : s11' a0 a1 h k → s11U a0 a1 h k := by
  unfold s11' s11U s11Hr s11Hu s11H
  repeat' first
    | with_reducible exact fun q => q
    | exact rng11_imp
    | with_reducible refine upF_in fun _ _ => ?_
    | with_reducible refine Go.Am.br_mono ?_ ?_
    | with_reducible refine Go.Am.asI_mono fun _ => ?_
    | with_reducible refine Go.Am.ldV_mono fun _ => ?_
    | with_reducible refine Go.Am.ldI_mono fun _ => ?_
    | with_reducible refine Go.Am.op_mono fun _ => ?_
    | with_reducible refine Go.Am.fB_mono fun _ => ?_
    | with_reducible refine Go.Am.fI_mono fun _ => ?_
    | with_reducible refine Go.Am.asTup_mono fun _ => ?_
    | with_reducible refine Go.Am.stV_mono fun _ => ?_
    | with_reducible refine Go.Am.jn_mono (fun _ _ => ?_) fun _ _ _ => ?_
    | with_reducible refine Go.Am.asBU_mono (fun _ => ?_) ?_
    | with_reducible refine Go.Am.pushK_mono fun _ _ => ?_
    | with_reducible refine Go.Am.okNil_mono ?_
    | with_reducible refine leave_up1 fun _ => ?_
    | with_reducible refine Go.Am.ldN_mono fun _ => ?_
    | with_reducible refine Go.Am.faK_mono fun _ => ?_
    | with_reducible refine Go.Am.ck_mono ?_
    | with_reducible refine Go.Am.lenK_mono fun _ => ?_
    | with_reducible refine Go.Am.asS_mono fun _ => ?_
    | with_reducible refine Go.Am.stN_mono fun _ => ?_
    | with_reducible refine Go.Am.ixK_mono fun _ => ?_
    | with_reducible refine Go.Am.lp_mono fun _ _ _ _ _ _ => ?_
    | with_reducible refine Go.Am.pickB_mono fun _ => ?_
    | with_reducible refine Go.Am.apC_mono fun _ _ => ?_
    | with_reducible refine Go.Am.asB_mono fun _ => ?_
    | with_reducible refine Go.Am.jd_mono (fun _ _ _ => ?_) fun _ _ _ => ?_
    | with_reducible refine Go.Am.asAgg_mono fun _ => ?_
    | with_reducible refine Go.Am.slK_mono fun _ => ?_
    | (intro q; with_reducible solve_by_elim)
noncomputable def g11' : Fun := w11 s11'
theorem g11'_ok : FunOk Tryz.prog 11 g11' := s11U_ok.imp fun xs h k e0 => by
  obtain ⟨a0, xs0, rfl, e1⟩ := arg_imp e0
  obtain ⟨a1, xs1, rfl, e2⟩ := arg_imp e1
  obtain ⟨rfl, e3⟩ := noArg_imp e2
  obtain ⟨a1, rfl, e4⟩ := asI_iff.1 e3
  exact s11'_imp e4
end Go.Proofs.YtfbdniomnnpemaaGreatDoor
