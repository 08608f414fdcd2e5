/- exec.written, where nothing was there before. -/
import Derived.Test.YtgpndbkghmbacaaGreatDoorAmS15
namespace Go.Proofs.YtgpndbkghmbacaaGreatDoor
open Go Go.Am
set_option linter.all false
set_option maxRecDepth 100000
theorem s286T_up {k : AV → H → Prop} {v : AV × AV × AV × Unit} {d : List Dfr} {h : H} : s286Tr k v d h → s286Tu k v d h := by
  unfold s286Tr s286Tu s286T
  repeat' first
    | with_reducible exact fun q => q
    | with_reducible refine upF_in fun _ _ => ?_
    | with_reducible refine Go.Am.br_mono ?_ ?_
    | with_reducible refine Go.Am.asI_mono fun _ => ?_
    | with_reducible refine Go.Am.ldV_mono fun _ => ?_
    | with_reducible refine Go.Am.ldI_mono fun _ => ?_
    | with_reducible refine Go.Am.ldB_mono fun _ => ?_
    | with_reducible refine Go.Am.ldS_mono fun _ => ?_
    | with_reducible refine Go.Am.ldN_mono fun _ => ?_
    | with_reducible refine Go.Am.op_mono fun _ => ?_
    | with_reducible refine Go.Am.fB_mono fun _ => ?_
    | with_reducible refine Go.Am.fI_mono fun _ => ?_
    | with_reducible refine Go.Am.asTup_mono fun _ => ?_
    | with_reducible refine Go.Am.asB_mono fun _ => ?_
    | with_reducible refine Go.Am.asS_mono fun _ => ?_
    | with_reducible refine Go.Am.asAgg_mono fun _ => ?_
    | with_reducible refine Go.Am.stV_mono fun _ => ?_
    | with_reducible refine Go.Am.stN_mono fun _ => ?_
    | with_reducible refine Go.Am.pushK_mono fun _ _ => ?_
    | with_reducible refine Go.Am.okNil_mono ?_
    | with_reducible refine leave_up0 fun _ => ?_
    | with_reducible refine Go.Am.faK_mono fun _ => ?_
    | with_reducible refine Go.Am.ck_mono ?_
    | with_reducible refine Go.Am.lenK_mono fun _ => ?_
    | with_reducible refine Go.Am.ixK_mono fun _ => ?_
    | with_reducible refine Go.Am.jn_mono (fun _ _ => ?_) fun _ _ _ => ?_
    | with_reducible refine Go.Am.asBU_mono (fun _ => ?_) ?_
    | with_reducible refine Go.Am.lp_mono fun _ _ _ _ _ _ => ?_
    | with_reducible refine Go.Am.jd_mono (fun _ _ _ => ?_) fun _ _ _ => ?_
    | with_reducible refine Go.Am.slK_mono fun _ => ?_
    | with_reducible refine Go.Am.apC_mono fun _ _ => ?_
    | with_reducible refine Go.Am.pickB_mono fun _ => ?_
    | with_reducible refine Go.Am.putK_mono fun _ => ?_
    | with_reducible refine Go.Am.asNat_mono fun _ => ?_
    | with_reducible refine Go.Am.asPtr_mono fun _ _ => ?_
    | with_reducible refine Go.Am.pickI_mono fun _ => ?_
    | with_reducible refine Go.Am.pickS_mono fun _ => ?_
    | with_reducible refine Go.Am.pickV_mono fun _ => ?_
    | with_reducible refine Go.Am.ixsK_mono fun _ => ?_
    | with_reducible refine Go.Am.fN_mono fun _ => ?_
    | with_reducible refine Go.Am.fS_mono fun _ => ?_
    | with_reducible refine Go.Am.nilB_mono fun _ => ?_
    | with_reducible refine Go.Am.obK_mono fun _ => ?_
    | with_reducible refine Go.Am.jb_mono (fun _ _ => ?_) fun _ _ _ => ?_
    | (intro q; with_reducible solve_by_elim)
/-- the range over a map that holds nothing, as it may be run -/
noncomputable def rng286 (k : AV → H → Prop) (x : AV) (y : AV → AV × AV × AV × Unit) (d : List Dfr) (h : H) : Prop :=
  rng1 x h (fun v h => s286Tr k (y v) d h) fun _ _ _ _ => False
theorem rng286_imp {k : AV → H → Prop} {x b1 b2 : AV} {d : List Dfr} {h : H} (q : rng286 k x (fun v => (b1, b2, v, ())) d h) : aRangeK x h fun v h => J0.lp (s286Bu k) (b1, b2, v, ()) d h := by
  refine rng1_imp (y := fun v => (b1, b2, v, ())) (fun m r es es0 clock h1 hb j hw it e0 e1 hm hmb hr hrb bt gm gr q => ?_) (fun m r a b s clock h1 hb j hw it hm hmb hr hrb bt gm gr q => q.elim) q
  subst e0 e1
  show s286B J0 _ _ _ k _ _ d h1
  unfold s286B
  exact it.last (fun e he => by cases he) hm hmb hr hrb bt gm gr (s286T_up q)
noncomputable def s286' (a0 a1 : AV) (h : H) (k : AV → H → Prop) : Prop := s286Hr (rng286 k) a0 a1 h k
set_option maxHeartbeats 1000000 in
theorem s286'_imp {a0 a1 : AV} {h : H} {k : AV → H → Prop} : s286' a0 a1 h k → s286U a0 a1 h k := by
  unfold s286' s286U s286Hr s286Hu s286H
  repeat' first
    | with_reducible exact fun q => q
    | exact rng286_imp
    | with_reducible refine upF_in fun _ _ => ?_
    | with_reducible refine Go.Am.br_mono ?_ ?_
    | with_reducible refine Go.Am.asI_mono fun _ => ?_
    | with_reducible refine Go.Am.ldV_mono fun _ => ?_
    | with_reducible refine Go.Am.ldI_mono fun _ => ?_
    | with_reducible refine Go.Am.ldB_mono fun _ => ?_
    | with_reducible refine Go.Am.ldS_mono fun _ => ?_
    | with_reducible refine Go.Am.ldN_mono fun _ => ?_
    | with_reducible refine Go.Am.op_mono fun _ => ?_
    | with_reducible refine Go.Am.fB_mono fun _ => ?_
    | with_reducible refine Go.Am.fI_mono fun _ => ?_
    | with_reducible refine Go.Am.asTup_mono fun _ => ?_
    | with_reducible refine Go.Am.asB_mono fun _ => ?_
    | with_reducible refine Go.Am.asS_mono fun _ => ?_
    | with_reducible refine Go.Am.asAgg_mono fun _ => ?_
    | with_reducible refine Go.Am.stV_mono fun _ => ?_
    | with_reducible refine Go.Am.stN_mono fun _ => ?_
    | with_reducible refine Go.Am.pushK_mono fun _ _ => ?_
    | with_reducible refine Go.Am.okNil_mono ?_
    | with_reducible refine leave_up0 fun _ => ?_
    | with_reducible refine Go.Am.faK_mono fun _ => ?_
    | with_reducible refine Go.Am.ck_mono ?_
    | with_reducible refine Go.Am.lenK_mono fun _ => ?_
    | with_reducible refine Go.Am.ixK_mono fun _ => ?_
    | with_reducible refine Go.Am.jn_mono (fun _ _ => ?_) fun _ _ _ => ?_
    | with_reducible refine Go.Am.asBU_mono (fun _ => ?_) ?_
    | with_reducible refine Go.Am.lp_mono fun _ _ _ _ _ _ => ?_
    | with_reducible refine Go.Am.jd_mono (fun _ _ _ => ?_) fun _ _ _ => ?_
    | with_reducible refine Go.Am.slK_mono fun _ => ?_
    | with_reducible refine Go.Am.apC_mono fun _ _ => ?_
    | with_reducible refine Go.Am.pickB_mono fun _ => ?_
    | with_reducible refine Go.Am.putK_mono fun _ => ?_
    | with_reducible refine Go.Am.asNat_mono fun _ => ?_
    | with_reducible refine Go.Am.asPtr_mono fun _ _ => ?_
    | with_reducible refine Go.Am.pickI_mono fun _ => ?_
    | with_reducible refine Go.Am.pickS_mono fun _ => ?_
    | with_reducible refine Go.Am.pickV_mono fun _ => ?_
    | with_reducible refine Go.Am.ixsK_mono fun _ => ?_
    | with_reducible refine Go.Am.fN_mono fun _ => ?_
    | with_reducible refine Go.Am.fS_mono fun _ => ?_
    | with_reducible refine Go.Am.nilB_mono fun _ => ?_
    | with_reducible refine Go.Am.obK_mono fun _ => ?_
    | with_reducible refine Go.Am.jb_mono (fun _ _ => ?_) fun _ _ _ => ?_
    | (intro q; with_reducible solve_by_elim)
noncomputable def g286' : Fun := w286 s286'
theorem g286'_ok : FunOk Tryz.prog 286 g286' := s286U_ok.imp fun xs h k e0 => by
  obtain ⟨a0, xs0, rfl, e1⟩ := arg_imp e0
  obtain ⟨a1, xs1, rfl, e2⟩ := arg_imp e1
  obtain ⟨rfl, e3⟩ := noArg_imp e2
  exact s286'_imp e3
end Go.Proofs.YtgpndbkghmbacaaGreatDoor
