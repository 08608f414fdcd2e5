/- A table of functions. -/
import Derived.Test.YtdaibgpceldbdaaGreatDoorAmTy
namespace Go.Am
open Go

def fls : Fun := fun _ _ _ => False
noncomputable def tab : List (Nat × Fun) → Nat → Fun
  | [], _ => fls
  | p :: r, f => Bool.rec (motive := fun _ => Fun) (tab r f) p.2 (Nat.beq f p.1)
def noCode : Code → Ks → List AV → List Dfr → H → Prop := fun _ _ _ _ _ => False
noncomputable def gam (J : Joins) (l : List (Nat × Fun)) : Gam := ⟨J, tab l, fun _ => fls, fun _ => fls, noCode⟩
/-- the same, with functions that are ranged over, and the code of rounds -/
noncomputable def gamI (J : Joins) (l li : List (Nat × Fun)) (cd : Code → Ks → List AV → List Dfr → H → Prop) : Gam := ⟨J, tab l, tab li, fun _ => fls, cd⟩
def TabOk (ok : Nat → Fun → Prop) (l : List (Nat × Fun)) : Prop := ∀ f, ok f (tab l f)
theorem tab_nil {ok : Nat → Fun → Prop} (h : ∀ f, ok f fls) : TabOk ok [] := h
theorem tab_cons {ok : Nat → Fun → Prop} {f : Nat} {g : Fun} {l : List (Nat × Fun)} (h : ok f g) (hl : TabOk ok l) : TabOk ok ((f, g) :: l) := fun f' => by
  show ok f' (Bool.rec (motive := fun _ => Fun) (tab l f') g (Nat.beq f' f))
  cases e : Nat.beq f' f with
  | true => rw [Nat.beq_eq] at e; subst e; exact h
  | false => exact hl f'
theorem fls_fun {P : Program} (f : Nat) : FunOk P f fls := fun _ _ _ e => e.elim
theorem fls_it {P : Program} (f : Nat) : ItOk P f fls := fun _ _ _ e => e.elim
theorem fls_dfn {P : Program} (f : Nat) : DFunOk P f fls := fun _ _ _ e => e.elim
theorem noCode_ok {P : Program} : CodeOk P noCode := fun _ _ _ _ _ e => e.elim
theorem gam_ok {P : Program} {J : Joins} {l : List (Nat × Fun)} (h : TabOk (FunOk P) l) : GamOk P (gam J l) := ⟨h, fls_it, fls_dfn, noCode_ok⟩
theorem gamI_ok {P : Program} {J : Joins} {l li : List (Nat × Fun)} {cd : Code → Ks → List AV → List Dfr → H → Prop} (h : TabOk (FunOk P) l) (hi : TabOk (ItOk P) li) (hc : CodeOk P cd) : GamOk P (gamI J l li cd) := ⟨h, hi, fls_dfn, hc⟩
theorem FunOk.imp {P : Program} {f : Nat} {g g' : Fun} (h : FunOk P f g) (hi : ∀ as hh k, g' as hh k → g as hh k) : FunOk P f g' := fun as hh Q e μ w args hR ha => h as hh Q (hi _ _ _ e) μ w args hR ha
theorem ItOk.imp {P : Program} {f : Nat} {g g' : Fun} (h : ItOk P f g) (hi : ∀ as hh k, g' as hh k → g as hh k) : ItOk P f g' := fun as hh Q e μ w args hR ha => h as hh Q (hi _ _ _ e) μ w args hR ha
theorem DFunOk.imp {P : Program} {f : Nat} {g g' : Fun} (h : DFunOk P f g) (hi : ∀ as hh k, g' as hh k → g as hh k) : DFunOk P f g' := fun as hh Q e μ w args hR ha => h as hh Q (hi _ _ _ e) μ w args hR ha
/-- internal/abi.NoEscape gives back what it was given -/
def noEsc : Fun := fun as h k => match as with
  | [x] => k x h
  | _ => False
theorem noEscape_ok {P : Program} {f : FuncId} {fn : Func} (hf : P.funcs[f]? = some fn) (hn : (fn.name == "runtime.NumGoroutine") = false) (hb : fn.body.isNone = true) (h1 : Extern.findNext fn = none) (h2 : Extern.find fn = some Extern.AbiNoEscape.same) : FunOk P f noEsc := by
  intro as h Q e μ w args hR ha
  left
  unfold noEsc at e
  split at e
  · rename_i x
    obtain ⟨v, _, hv, hx, hn'⟩ := AV.relL_cons.1 ha
    rw [AV.relL_nil] at hn'; subst hn'
    have : args = #[v] := Array.toList_inj.1 hv
    subst this
    refine ⟨v, w, μ, x, h, ?_, hx, Post.refl hR, e⟩
    have h3 : (Extern.AbiNoEscape.same #[v]).run P w = .ok v w := rfl
    rw [beq_eq_false_iff_ne] at hn
    rw [Option.isNone_iff_eq_none] at hb
    simp [callFunc, hf, hn, hb, h1, h2, h3]
  · exact e.elim
/-- maps.clone -/
noncomputable def cloneF : Fun := fun as h k => match as with
  | [.iface t (.map id)] => asMap (h.get id) (fun es clock => pushK (.amap es clock) h fun n h' => k (.iface t (.map n)) h') fun es => pushK (.smap es) h fun n h' => k (.iface t (.map n)) h'
  | _ => False
where
  asMap (b : Blk) (k : List (AV × AV × Nat) → Nat → Prop) (k2 : List (AV × AV) → Prop) : Prop :=
    match b with
    | .amap es clock => k es clock
    | .smap es => k2 es
    | _ => False
theorem cloneF_ok {P : Program} {f : FuncId} {fn : Func} (hf : P.funcs[f]? = some fn) (hn : (fn.name == "runtime.NumGoroutine") = false) (hb : fn.body.isNone = true) (h1 : Extern.findNext fn = none) (h2 : Extern.find fn = some Extern.MapsClone.clone) : FunOk P f cloneF := by
  intro as h Q e μ w args hR ha
  left
  unfold cloneF at e
  split at e
  · rename_i t id
    unfold cloneF.asMap at e
    split at e
    · rename_i es clock hg
      rw [pushK_iff] at e
      obtain ⟨n, h', hp, e⟩ := e
      obtain ⟨v, _, hv, hx, hn'⟩ := AV.relL_cons.1 ha
      rw [AV.relL_nil] at hn'; subst hn'
      have : args = #[v] := Array.toList_inj.1 hv
      subst this
      obtain ⟨v', w', μ', q1, q2, q3⟩ := clone_ok (P := P) hR (a := .iface t (.map id)) (r := .iface t (.map n)) (h' := h') (by simp only [aClone, hg, hp]) hx
      refine ⟨v', w', μ', _, h', ?_, q2, q3, e⟩
      rw [beq_eq_false_iff_ne] at hn
      rw [Option.isNone_iff_eq_none] at hb
      simp [callFunc, hf, hn, hb, h1, h2, q1]
    · rename_i es hg
      rw [pushK_iff] at e
      obtain ⟨n, h', hp, e⟩ := e
      obtain ⟨v, _, hv, hx, hn'⟩ := AV.relL_cons.1 ha
      rw [AV.relL_nil] at hn'; subst hn'
      have : args = #[v] := Array.toList_inj.1 hv
      subst this
      obtain ⟨v', w', μ', q1, q2, q3⟩ := clone_ok (P := P) hR (a := .iface t (.map id)) (r := .iface t (.map n)) (h' := h') (by simp only [aClone, hg, hp]) hx
      refine ⟨v', w', μ', _, h', ?_, q2, q3, e⟩
      rw [beq_eq_false_iff_ne] at hn
      rw [Option.isNone_iff_eq_none] at hb
      simp [callFunc, hf, hn, hb, h1, h2, q1]
    · exact e.elim
  · exact e.elim
end Go.Am
