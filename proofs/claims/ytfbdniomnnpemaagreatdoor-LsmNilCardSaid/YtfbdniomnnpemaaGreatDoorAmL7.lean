/- What code comes to over an abstract heap, and that this is sound: part 7. No condition. -/
import Derived.Test.YtfbdniomnnpemaaGreatDoorAmL6
import Derived.ProofKit
import Derived.WideShapes
import Derived.OpenShut
import Derived.LaidLaws
/- A table of types, checked against the program's own. -/
namespace Go.Am
open Go

def zrel : AV → Value → Bool
  | .bool a, .bool b => a == b
  | .int k n, .int k' m => decide (k = k') && n == m
  | .str s, .string b => b.data.toList.isEmpty && s.len == 0 && s.val == 0
  | .nilp, .pointer none => true
  | .nils, .slice none 0 0 => true
  | .nilm, .map none => true
  | .nilf, .nilFunc => true
  | .nili, .nilIface => true
  | .junk, _ => true
  | _, _ => false
def zrels : List AV → List Value → Bool
  | [], [] => true
  | a :: as, v :: vs => zrel a v && zrels as vs
  | _, _ => false
theorem zrel_ok {μ : Mu} {a : AV} {v : Value} (h : zrel a v = true) : a.rel μ v := by
  unfold zrel at h
  split at h <;> simp only [AV.rel, Bool.and_eq_true, beq_iff_eq, decide_eq_true_eq, Bool.false_eq_true] at h ⊢
  · rw [h]
  · rw [h.1, h.2]
  · rename_i s b
    refine ⟨b, rfl, ?_⟩
    obtain ⟨⟨h1, h2⟩, h3⟩ := h
    rw [List.isEmpty_iff] at h1
    rw [h1]
    cases s; simp only at h2 h3; subst h2 h3; rfl
theorem zrels_ok {μ : Mu} : ∀ {as : List AV} {vs : List Value}, zrels as vs = true → AV.relL μ as vs
  | [], [], _ => AV.relL_nil.2 rfl
  | a :: as, v :: vs, h => by
    simp only [zrels, Bool.and_eq_true] at h
    exact AV.relL_cons.2 ⟨v, vs, rfl, zrel_ok h.1, zrels_ok h.2⟩
  | [], _ :: _, h => by cases h
  | _ :: _, [], h => by cases h

def kdB : Kd → TypeDesc → Bool
  | .bool, .bool => true
  | .int k, .int k' => decide (k = k')
  | .str, .string => true
  | .unsafe_, .unsafePointer => true
  | .ptr e, .pointer e' => Nat.beq e e'
  | .slice e, .slice e' => Nat.beq e e'
  | .arr n e, .array n' e' => Nat.beq n n' && Nat.beq e e'
  | .struct fs, .struct fields => decide (fs = fields.toList.map (fun f => (f.offset, f.type)))
  | .map k e, .map k' e' => Nat.beq k k' && Nat.beq e e'
  | .func, .func _ _ _ => true
  | .iface, .interface _ => true
  | _, _ => false
theorem kdB_ok {k : Kd} {d : TypeDesc} (h : kdB k d = true) : KdRel k d := by
  unfold kdB at h
  split at h <;> simp only [Bool.and_eq_true, Nat.beq_eq, decide_eq_true_eq, Bool.false_eq_true] at h
  · rfl
  · rw [h]; rfl
  · rfl
  · rfl
  · rw [h]; rfl
  · rw [h]; rfl
  · rw [h.1, h.2]; rfl
  · exact ⟨_, rfl, h⟩
  · rw [h.1, h.2]; rfl
  · exact ⟨_, _, _, rfl⟩
  · exact ⟨_, rfl⟩

def aggB : Value → Bool
  | .agg _ => true
  | _ => false
def chkInfo (ti : TI) (i : TypeInfo) : Bool :=
  i.size == ti.size && i.bytes == ti.bytes && (!ti.kd.simple || i.comparable) && (match i.zero with
    | some z => zrels ti.zero z.cells.toList && (ti.kd.agg == aggB z)
    | none => false)
def chkEq (P : Program) (t : Nat) (d : TypeDesc) : Bool :=
  !(P.eqGuardType P.depth t) && !(P.stoodInHeld t) && (match d with
    | .struct fs => fs.toList.all fun f => f.name != "_"
    | _ => true)
def chkTI (P : Program) (t : Nat) (ti : TI) : Bool :=
  match P.info? t, P.underlying t with
  | some i, some d => chkInfo ti i && kdB ti.kd d && (!ti.eqp || chkEq P t d)
  | _, _ => false
theorem chkTI_ok {P : Program} {t : Nat} {ti : TI} (h : chkTI P t ti = true) : TIRel P t ti := by
  unfold chkTI at h
  split at h
  · rename_i i d hi hd
    simp only [Bool.and_eq_true] at h
    obtain ⟨⟨h1, h2⟩, h3⟩ := h
    unfold chkInfo at h1
    simp only [Bool.and_eq_true, beq_iff_eq] at h1
    obtain ⟨⟨⟨s1, s2⟩, s4⟩, s3⟩ := h1
    split at s3
    · rename_i z hz
      simp only [Bool.and_eq_true, beq_iff_eq] at s3
      refine ⟨⟨i, z, hi, s1, s2, hz, zrels_ok s3.1, fun ha => ?_⟩, ⟨d, hd, kdB_ok h2⟩, fun ha i' z' hi' hz' => ?_, fun hs => ⟨i, hi, by rw [hs] at s4; simpa using s4⟩, fun he => ?_⟩
      · have q := s3.2.symm; rw [ha] at q
        cases z <;> simp only [aggB, Bool.false_eq_true] at q
        exact ⟨_, rfl⟩
      · rw [hi] at hi'; injection hi' with hi'; subst hi'
        rw [hz] at hz'; injection hz' with hz'; subst hz'
        have q := s3.2.symm; rw [ha] at q
        cases z <;> first | rfl | (simp only [aggB, Bool.true_eq_false] at q)
      · rw [he] at h3
        simp only [Bool.not_true, Bool.false_or] at h3
        unfold chkEq at h3
        simp only [Bool.and_eq_true, Bool.not_eq_true'] at h3
        refine ⟨h3.1.1, h3.1.2, fun fs hfs f hf => ?_⟩
        rw [hd] at hfs; injection hfs with hfs; subst hfs
        have := h3.2
        simp only [List.all_eq_true, bne_iff_ne, ne_eq] at this
        exact this f (by simpa using hf)
    · cases s3
  · cases h
/-- from row k on -/
def chkL (P : Program) : Nat → List TI → Bool
  | _, [] => true
  | k, ti :: r => (!ti.kd.known || chkTI P k ti) && chkL P (k + 1) r
noncomputable def tyOf (L : List TI) : Ty := fun t => lget ⟨.other, 0, 0, [], false⟩ L t
theorem chkL_ok {P : Program} : ∀ (L : List TI) (k t : Nat), chkL P k L = true → (lget ⟨.other, 0, 0, [], false⟩ L t).kd.known = true → TIRel P (k + t) (lget ⟨.other, 0, 0, [], false⟩ L t)
  | [], k, t, _, h => by rw [lget_eq] at h; simp [Kd.known] at h
  | ti :: r, k, 0, h, hk => by
    simp only [chkL, Bool.and_eq_true, Bool.or_eq_true, Bool.not_eq_true'] at h
    rcases h.1 with q | q
    · have : ti.kd.known = true := hk
      rw [this] at q; cases q
    · exact chkTI_ok q
  | ti :: r, k, t + 1, h, hk => by
    simp only [chkL, Bool.and_eq_true] at h
    have := chkL_ok r (k + 1) t h.2 hk
    rwa [show k + 1 + t = k + (t + 1) from by omega] at this
theorem tyOk_of {P : Program} {L : List TI} (h : chkL P 0 L = true) : TyOk P (tyOf L) := fun t ht => by
  have := chkL_ok L 0 t h ht
  rwa [Nat.zero_add] at this
end Go.Am

/- A table of functions. -/
namespace Go.Am
open Go

def fls : Fun := fun _ _ _ => False
noncomputable def tab : List (Nat × Fun) → Nat → Fun
  | [], _ => fls
  | p :: r, f => Bool.rec (motive := fun _ => Fun) (tab r f) p.2 (Nat.beq f p.1)
def noCode : Code → Ks → List AV → List Dfr → H → Prop := fun _ _ _ _ _ => False
noncomputable def gam (J : Joins) (l : List (Nat × Fun)) : Gam := ⟨J, tab l, fun _ => fls, fun _ => fls, noCode⟩
/-- the same, with functions that are ranged over, and the code of rounds -/
noncomputable def gamI (J : Joins) (l li : List (Nat × Fun)) (cd : Code → Ks → List AV → List Dfr → H → Prop) : Gam := ⟨J, tab l, tab li, fun _ => fls, cd⟩
def TabOk (ok : Nat → Fun → Prop) (l : List (Nat × Fun)) : Prop := ∀ f, ok f (tab l f)
theorem tab_nil {ok : Nat → Fun → Prop} (h : ∀ f, ok f fls) : TabOk ok [] := h
theorem tab_cons {ok : Nat → Fun → Prop} {f : Nat} {g : Fun} {l : List (Nat × Fun)} (h : ok f g) (hl : TabOk ok l) : TabOk ok ((f, g) :: l) := fun f' => by
  show ok f' (Bool.rec (motive := fun _ => Fun) (tab l f') g (Nat.beq f' f))
  cases e : Nat.beq f' f with
  | true => rw [Nat.beq_eq] at e; subst e; exact h
  | false => exact hl f'
theorem fls_fun {P : Program} (f : Nat) : FunOk P f fls := fun _ _ _ e => e.elim
theorem fls_it {P : Program} (f : Nat) : ItOk P f fls := fun _ _ _ e => e.elim
theorem fls_dfn {P : Program} (f : Nat) : DFunOk P f fls := fun _ _ _ e => e.elim
theorem noCode_ok {P : Program} : CodeOk P noCode := fun _ _ _ _ _ e => e.elim
theorem gam_ok {P : Program} {J : Joins} {l : List (Nat × Fun)} (h : TabOk (FunOk P) l) : GamOk P (gam J l) := ⟨h, fls_it, fls_dfn, noCode_ok⟩
theorem gamI_ok {P : Program} {J : Joins} {l li : List (Nat × Fun)} {cd : Code → Ks → List AV → List Dfr → H → Prop} (h : TabOk (FunOk P) l) (hi : TabOk (ItOk P) li) (hc : CodeOk P cd) : GamOk P (gamI J l li cd) := ⟨h, hi, fls_dfn, hc⟩
theorem FunOk.imp {P : Program} {f : Nat} {g g' : Fun} (h : FunOk P f g) (hi : ∀ as hh k, g' as hh k → g as hh k) : FunOk P f g' := fun as hh Q e μ w args hR ha => h as hh Q (hi _ _ _ e) μ w args hR ha
theorem ItOk.imp {P : Program} {f : Nat} {g g' : Fun} (h : ItOk P f g) (hi : ∀ as hh k, g' as hh k → g as hh k) : ItOk P f g' := fun as hh Q e μ w args hR ha => h as hh Q (hi _ _ _ e) μ w args hR ha
theorem DFunOk.imp {P : Program} {f : Nat} {g g' : Fun} (h : DFunOk P f g) (hi : ∀ as hh k, g' as hh k → g as hh k) : DFunOk P f g' := fun as hh Q e μ w args hR ha => h as hh Q (hi _ _ _ e) μ w args hR ha
/-- internal/abi.NoEscape gives back what it was given -/
def noEsc : Fun := fun as h k => match as with
  | [x] => k x h
  | _ => False
theorem noEscape_ok {P : Program} {f : FuncId} {fn : Func} (hf : P.funcs[f]? = some fn) (hn : (fn.name == "runtime.NumGoroutine") = false) (hb : fn.body.isNone = true) (h1 : Extern.findNext fn = none) (h2 : Extern.find fn = some Extern.AbiNoEscape.same) : FunOk P f noEsc := by
  intro as h Q e μ w args hR ha
  left
  unfold noEsc at e
  split at e
  · rename_i x
    obtain ⟨v, _, hv, hx, hn'⟩ := AV.relL_cons.1 ha
    rw [AV.relL_nil] at hn'; subst hn'
    have : args = #[v] := Array.toList_inj.1 hv
    subst this
    refine ⟨v, w, μ, x, h, ?_, hx, Post.refl hR, e⟩
    have h3 : (Extern.AbiNoEscape.same #[v]).run P w = .ok v w := rfl
    rw [beq_eq_false_iff_ne] at hn
    rw [Option.isNone_iff_eq_none] at hb
    simp [callFunc, hf, hn, hb, h1, h2, h3]
  · exact e.elim
/-- maps.clone -/
noncomputable def cloneF : Fun := fun as h k => match as with
  | [.iface t (.map id)] => asMap (h.get id) (fun es clock => pushK (.amap es clock) h fun n h' => k (.iface t (.map n)) h') fun es => pushK (.smap es) h fun n h' => k (.iface t (.map n)) h'
  | _ => False
where
  asMap (b : Blk) (k : List (AV × AV × Nat) → Nat → Prop) (k2 : List (AV × AV) → Prop) : Prop :=
    match b with
    | .amap es clock => k es clock
    | .smap es => k2 es
    | _ => False
theorem cloneF_ok {P : Program} {f : FuncId} {fn : Func} (hf : P.funcs[f]? = some fn) (hn : (fn.name == "runtime.NumGoroutine") = false) (hb : fn.body.isNone = true) (h1 : Extern.findNext fn = none) (h2 : Extern.find fn = some Extern.MapsClone.clone) : FunOk P f cloneF := by
  intro as h Q e μ w args hR ha
  left
  unfold cloneF at e
  split at e
  · rename_i t id
    unfold cloneF.asMap at e
    split at e
    · rename_i es clock hg
      rw [pushK_iff] at e
      obtain ⟨n, h', hp, e⟩ := e
      obtain ⟨v, _, hv, hx, hn'⟩ := AV.relL_cons.1 ha
      rw [AV.relL_nil] at hn'; subst hn'
      have : args = #[v] := Array.toList_inj.1 hv
      subst this
      obtain ⟨v', w', μ', q1, q2, q3⟩ := clone_ok (P := P) hR (a := .iface t (.map id)) (r := .iface t (.map n)) (h' := h') (by simp only [aClone, hg, hp]) hx
      refine ⟨v', w', μ', _, h', ?_, q2, q3, e⟩
      rw [beq_eq_false_iff_ne] at hn
      rw [Option.isNone_iff_eq_none] at hb
      simp [callFunc, hf, hn, hb, h1, h2, q1]
    · rename_i es hg
      rw [pushK_iff] at e
      obtain ⟨n, h', hp, e⟩ := e
      obtain ⟨v, _, hv, hx, hn'⟩ := AV.relL_cons.1 ha
      rw [AV.relL_nil] at hn'; subst hn'
      have : args = #[v] := Array.toList_inj.1 hv
      subst this
      obtain ⟨v', w', μ', q1, q2, q3⟩ := clone_ok (P := P) hR (a := .iface t (.map id)) (r := .iface t (.map n)) (h' := h') (by simp only [aClone, hg, hp]) hx
      refine ⟨v', w', μ', _, h', ?_, q2, q3, e⟩
      rw [beq_eq_false_iff_ne] at hn
      rw [Option.isNone_iff_eq_none] at hb
      simp [callFunc, hf, hn, hb, h1, h2, q1]
    · exact e.elim
  · exact e.elim
end Go.Am

/- From the functional semantics to a row: whatever the input, the law returns true, and the input reads as it did. -/
namespace Go.Am
open Go Go.ChangeShapes Go.RowKit

theorem law_calls {P : Program} {f : FuncId} {g : Fun} (hok : FunOk P f g) (henter : ∀ args w, (callFunc f args).run P w = .ok (.enter f args) w) {as : List AV} {h : H} {Q : AV → H → Prop} (hg : g as h Q)
    {μ : Mu} {W : World} {args : Array Value} (hR : Rel μ h W) (ha : AV.relL μ as args.toList) : CallsTo P μ h W f args Q := by
  rcases hok as h Q hg μ W args hR ha with ⟨v, w', μ', r, h', q1, _⟩ | ⟨_, q⟩
  · rw [henter] at q1; cases q1
  · exact q
/-- the empty heap -/
def H0 : H := ⟨.lf, 0, 0⟩
theorem rel0 (W : World) : Rel noMu H0 W :=
  ⟨⟨Nat.le_refl _⟩, fun _ _ _ h => (by cases h), fun _ _ _ _ _ h => (by cases h), fun _ _ _ h => (by cases h), fun _ _ _ _ _ _ h => (by cases h), fun _ _ _ h => absurd h (Nat.not_lt_zero _)⟩
theorem below_of_post {μ μ' : Mu} {h h' : H} {W W' : World} (hp : Post μ h W μ' h' W') (hb : ∀ id b d, h.base ≤ id → μ id = some (b, d) → (h.get id).live = false) : Below W.heap.size W W' :=
  ⟨hp.frame.os, hp.frame.tape, hp.frame.output, hp.frame.size, fun k hk => hp.frame.block k hk fun id d h1 h2 => hb id k d h1 h2⟩
def isT (r : AV) (_ : H) : Prop := r = .bool true
/-- a law over a heap of which nothing may be written -/
theorem law {P : Program} {f : FuncId} {g : Fun} (hok : FunOk P f g) (henter : ∀ args w, (callFunc f args).run P w = .ok (.enter f args) w) {as : List AV} {h : H} (hg : g as h isT) {μ : Mu} (hb : ∀ id b d, h.base ≤ id → μ id = some (b, d) → (h.get id).live = false)
    {W : World} {args : Array Value} (hR : Rel μ h W) (ha : AV.relL μ as args.toList) : Calls P f args W fun e W' => e = .returned (.bool true) ∧ Below W.heap.size W W' :=
  Calls.mono (law_calls hok henter hg hR ha) fun e W' he => by
    obtain ⟨v, μ', r, h', rfl, hv, hp, hr⟩ := he
    have hr : r = .bool true := hr
    subst hr
    simp only [AV.rel] at hv; subst hv
    exact ⟨rfl, below_of_post hp hb⟩
/-- a law without a heap of its own -/
theorem law0 {P : Program} {f : FuncId} {g : Fun} (hok : FunOk P f g) (henter : ∀ args w, (callFunc f args).run P w = .ok (.enter f args) w) {as : List AV} (hg : g as H0 isT)
    {W : World} {args : Array Value} (ha : AV.relL noMu as args.toList) : Calls P f args W fun e W' => e = .returned (.bool true) ∧ Below W.heap.size W W' :=
  law hok henter hg (fun _ _ _ _ h => by cases h) (rel0 W) ha

section
variable {H : Type} {enc : TypeId × Value → H} {P : Program}
theorem trodAll_below (hl : laidOutB P = true) {W W' : World} (hb : Below W.heap.size W W') : ∀ {ts : List TypeId} {vs : List Value} {ds : List (DataW H)} {ps : List MemPlace}, (∀ t ∈ ts, P.readableRec t = true ∧ t < P.types.size) →
    DataW.TrodAll enc P W 0 (fun _ => true) true ts vs ds ps → (∀ x ∈ ps, x.block < W.heap.size) → DataW.TrodAll enc P W' 0 (fun b => decide (b < W.heap.size)) true ts vs ds ps
  | [], _, _, _, _, h, _ => by obtain ⟨rfl, rfl, rfl⟩ := trodAll_nil h; rfl
  | t :: ts, _, _, _, ht, h, hlt => by
    obtain ⟨v, vs1, d, ds1, a, b, rfl, rfl, rfl, h1, h2⟩ := trodAll_cons h
    exact ⟨a, b, Below.trod hl (ht t (by simp)).1 (ht t (by simp)).2 h1 hb (fun x hx => hlt x (by simp [hx])), trodAll_below hl hb (fun t h => ht t (by simp [h])) h2 (fun x hx => hlt x (by simp [hx])), rfl⟩
theorem post_of_below {f : Func} {s : ChangeSpec} {W W' : World} {args : Array Value} {v : Value} {ds gs : List (DataW H)} {before : List MemPlace} {fresh handsOn : Bool} (hv : s.vars = []) (hl : laidOutB P = true) (hpar : ∀ t ∈ f.params.toList, P.readableRec t = true ∧ t < P.types.size)
    (hW : DataW.Whole enc P f.params.toList s.vars false W args.toList ds gs before) (hb : Below W.heap.size W W') (ha : (s.fn H (ds ++ gs)).args = ds) (hvs : (s.fn H (ds ++ gs)).vars = [])
    (hres : ∀ (b : Nat) (sp : Nat → Bool) (hd : Bool), DataW.TrodAll enc P W' b sp hd f.resultTypes.toList (v.resultList f.resultTypes.size) (s.fn H (ds ++ gs)).results []) : s.post enc P f false fresh handsOn false W args v W' := by
  have hW' := hW
  have hlt := hW.lt
  obtain ⟨p, q, hA, hV, rfl, hz, hn⟩ := hW
  rw [hv] at hV
  obtain ⟨rfl, rfl⟩ := trodVars_none hV
  refine ⟨ds, [], p ++ [], [], p, [], hW', hres _ _ _, ?_, ?_, hb.frame _, fun h => by cases h⟩
  · rw [ha]; exact trodAll_below hl hb hpar hA (fun x hx => hlt x (by simp [hx]))
  · rw [hv, hvs]; rfl
theorem bool_res {W' : World} {f : Func} {t : TypeId} (hr : f.resultTypes = #[t]) (ht : P.underlying t = some .bool) (b : Bool) (k : Nat) (sp : Nat → Bool) (hd : Bool) :
    DataW.TrodAll enc P W' k sp hd f.resultTypes.toList ((Value.bool b).resultList f.resultTypes.size) [.lit (.bool b)] [] := by
  rw [hr]
  exact trodAll_mk1 ⟨1, by simp [DataW.trod, Value.cells, ht]⟩
end
end Go.Am

/- For functions that are printed in continuation style: taking the arguments, and a few short forms. -/
namespace Go.Am
open Go
noncomputable def arg (as : List AV) (k : AV → List AV → Prop) : Prop := List.rec (motive := fun _ => Prop) False (fun a t _ => k a t) as
noncomputable def noArg (as : List AV) (p : Prop) : Prop := List.rec (motive := fun _ => Prop) p (fun _ _ _ => False) as
theorem arg_imp {as : List AV} {k : AV → List AV → Prop} (e : arg as k) : ∃ a t, as = a :: t ∧ k a t := by
  cases as with
  | nil => exact e.elim
  | cons a t => exact ⟨a, t, rfl, e⟩
theorem noArg_imp {as : List AV} {p : Prop} (e : noArg as p) : as = [] ∧ p := by
  cases as with
  | nil => exact ⟨rfl, e⟩
  | cons a t => exact e.elim
noncomputable def lenK (v : AV) (k : Nat → Prop) : Prop := asSl v (k 0) fun _ _ len _ _ _ => k len
noncomputable def delK (o : Option (Option (Nat × Blk))) (h : H) (k : H → Prop) : Prop := op' o fun p => match p with
  | some q => putK q.1 q.2 h k
  | none => k h
noncomputable def spX (o : Option AV) (k : AV → Prop) : Prop := match o with
  | some v => k v
  | none => False
/-- what is run to 'true' holds -/
theorem of_run {p : Prop} (h : (AV.bool true = AV.bool true) = p) : p := h ▸ rfl
end Go.Am

/- What a call made and nobody names any more may be given up: summaries whose heap does not hang on what was thrown away. -/
namespace Go.Am
open Go
theorem Shown.resort {es es2 : List (AV × AV)} {es' : List (AV × AV × Nat)} {clock : Nat} (s : Shown es es' clock) (p : es.Perm es2) : Shown es2 es' clock :=
  ⟨s.perm.trans p, (p.map (·.1)).nodup_iff.1 s.keys, s.stamps, s.low⟩
/-- as h1, but that some blocks from place n on are given up, and some maps told in another order -/
structure Deader (n : Nat) (h1 h2 : H) : Prop where
  next : h2.next = h1.next
  base : h2.base = h1.base
  low : ∀ id, id < n → h2.get id = h1.get id
  high : ∀ id, n ≤ id → h2.get id = h1.get id ∨ h2.get id = .dead ∨ ∃ es es2, h1.get id = .smap es ∧ h2.get id = .smap es2 ∧ es.Perm es2
theorem Deader.refl (n : Nat) (h : H) : Deader n h h := ⟨rfl, rfl, fun _ _ => rfl, fun _ _ => .inl rfl⟩
theorem Deader.any {n : Nat} {h1 h2 : H} (d : Deader n h1 h2) (id : Nat) : h2.get id = h1.get id ∨ h2.get id = .dead ∨ ∃ es es2, h1.get id = .smap es ∧ h2.get id = .smap es2 ∧ es.Perm es2 := by
  rcases Nat.lt_or_ge id n with h | h
  · exact .inl (d.low id h)
  · exact d.high id h
theorem Deader.live {n : Nat} {h1 h2 : H} (d : Deader n h1 h2) {id : Nat} (h : (h2.get id).live = true) : (h1.get id).live = true := by
  rcases d.any id with e | e | ⟨es, es2, e, _⟩
  · rw [← e]; exact h
  · rw [e] at h; cases h
  · rw [e]; rfl
theorem Post.deader {μ μ' : Mu} {h h1 h2 : H} {w w' : World} (hR : Rel μ h w) (p : Post μ h w μ' h1 w') (d : Deader h.next h1 h2) : Post μ h w μ' h2 w' := by
  refine ⟨p.ext, ⟨?_, fun id b e hm => ?_, fun i j b e f hi hj li lj => p.rel.inj i j b e f hi hj (d.live li) (d.live lj), fun id b e hm => ?_, p.rel.cnt, p.rel.glb.step d.base (fun id hi => d.low id (by have := hR.wf.low; have := p.grows.base; omega)) fun _ _ => rfl⟩, p.frame, ⟨?_, ?_, fun id hi hm => ?_, fun id hi => ?_, fun id hi hl => p.grows.dead id hi (d.live hl)⟩, fun id b e hi hm hb hl => p.fresh id b e hi hm hb (d.live hl)⟩
  · exact ⟨by rw [d.base, d.next]; exact p.rel.wf.low⟩
  · rw [d.next]; exact p.rel.dom id b e hm
  · rcases d.any id with q | q | ⟨es, es2, q1, q2, q3⟩
    · rw [q]; exact p.rel.blk id b e hm
    · rw [q]; trivial
    · have hb := p.rel.blk id b e hm
      rw [q1] at hb
      obtain ⟨h0, es', clock, ces, r1, r2, r3⟩ := hb
      rw [q2]; exact ⟨h0, es', clock, ces, r1, r2, r3.resort q3⟩
  · rw [d.next]; exact p.grows.next
  · rw [d.base]; exact p.grows.base
  · rw [d.low id hi]; exact p.grows.keep id hi hm
  · rw [d.low id (Nat.lt_of_lt_of_le hi hR.wf.low)]; exact p.grows.low id hi
theorem FunOk.deader {P : Program} {f : FuncId} {g g' : Fun} (hg : FunOk P f g) (hi : ∀ as h k, h.Wf → g' as h k → g as h fun r h1 => ∃ h2, Deader h.next h1 h2 ∧ k r h2) : FunOk P f g' := by
  intro as h Q e μ w args hR ha
  rcases hg as h _ (hi as h Q hR.wf e) μ w args hR ha with ⟨v, w', μ', r, h1, q1, q2, q3, h2, q4, q5⟩ | ⟨q1, q2⟩
  · exact .inl ⟨v, w', μ', r, h2, q1, q2, q3.deader hR q4, q5⟩
  · exact .inr ⟨q1, Calls.mono q2 fun e w' ⟨v, μ', r, h1, p1, p2, p3, h2, p4, p5⟩ => ⟨v, μ', r, h2, p1, p2, p3.deader hR p4, p5⟩⟩
/-- what follows may be asked less -/
theorem FunOk.up {P : Program} {f : FuncId} {g g' : Fun} (hg : FunOk P f g) (hi : ∀ as h k, g' as h k → ∃ K, g as h K ∧ ∀ r h', K r h' → k r h') : FunOk P f g' := by
  intro as h Q e μ w args hR ha
  obtain ⟨K, e, hK⟩ := hi as h Q e
  rcases hg as h K e μ w args hR ha with ⟨v, w', μ', r, h1, q1, q2, q3, q4⟩ | ⟨q1, q2⟩
  · exact .inl ⟨v, w', μ', r, h1, q1, q2, q3, hK _ _ q4⟩
  · exact .inr ⟨q1, Calls.mono q2 fun e w' ⟨v, μ', r, h1, p1, p2, p3, p4⟩ => ⟨v, μ', r, h1, p1, p2, p3, hK _ _ p4⟩⟩
end Go.Am

/- A range over a map, step by step. -/
namespace Go.Am
open Go
theorem hput_get {h h' : H} {i : Nat} {b : Blk} (e : h.put i b = some h') : i < h.next ∧ h.base ≤ i ∧ h'.next = h.next ∧ h'.base = h.base ∧ ∀ id, h'.get id = if id = i then b else h.get id := by
  rw [H.put_eq] at e
  split at e
  · rename_i hlt
    injection e with e; subst e
    refine ⟨hlt.1, hlt.2, rfl, rfl, fun id => ?_⟩
    rw [H.get_eq, H.get_eq]
    simp only [Tr.get_set]
    split <;> split <;> first | rfl | omega | simp_all
  · cases e
theorem put_ok {h : H} {i : Nat} (b : Blk) (h1 : i < h.next) (h2 : h.base ≤ i) : ∃ h', h.put i b = some h' := ⟨_, by rw [H.put_eq, if_pos ⟨h1, h2⟩]⟩
theorem push_ok (h : H) (b : Blk) : ∃ h', h.push b = some (h.next, h') := by unfold H.push; exact ⟨_, rfl⟩
/-- an iterator over map m, that stands as es (told at first: es0), has gone over 'seen' -/
structure Iter (m r : Nat) (es0 : List (AV × AV)) (es : List (AV × AV × Nat)) (clock : Nat) (seen : List Nat) (h : H) : Prop where
  mp : h.get m = .amap es clock
  it : h.get r = .miter (some m) clock seen clock
  shown : Shown es0 es clock
theorem Iter.ne {m r : Nat} {es0 : List (AV × AV)} {es : List (AV × AV × Nat)} {clock : Nat} {seen : List Nat} {h : H} (i : Iter m r es0 es clock seen h) : m ≠ r := by
  intro e; subst e; have := i.it; rw [i.mp] at this; cases this
/-- the next round, or the end -/
theorem Iter.next {m r : Nat} {es0 : List (AV × AV)} {es : List (AV × AV × Nat)} {clock : Nat} {seen : List Nat} {h : H} (i : Iter m r es0 es clock seen h) {k : AV → H → Prop}
    (hgo : ∀ e ∈ es, e.2.2 ∉ seen → ∃ h', h.put r (.miter (some m) clock (seen ++ [e.2.2]) clock) = some h' ∧ k (.tuple [.bool true, e.1, e.2.1]) h')
    (hend : (∀ e ∈ es, e.2.2 ∈ seen) → ∃ h1 h2, h.put m (.smap es0) = some h1 ∧ h1.put r .dead = some h2 ∧ k (.tuple [.bool false]) h2) : aNext (.ptr r 0) h k := by
  unfold aNext
  simp only [i.it, i.mp]
  have hst : (!seen.isEmpty && !es.isEmpty && es.all (fun e => Nat.ble clock e.2.2)) = false := by
    cases es with
    | nil => simp
    | cons e l =>
      have := i.shown.low e List.mem_cons_self
      have hb : Nat.ble clock e.2.2 = false := by
        cases hc : Nat.ble clock e.2.2 with
        | false => rfl
        | true => rw [ble_iff] at hc; omega
      simp [hb]
  rw [hst]
  simp only
  intro c hc
  unfold aCands at hc
  have hold : ∀ e ∈ es, Nat.blt e.2.2 clock = true := fun e he => by rw [blt_iff]; exact i.shown.low e he
  have e1 : ((es.filter fun e => !hasN seen e.2.2).filter fun e => Nat.blt e.2.2 clock) = es.filter fun e => !hasN seen e.2.2 := by
    rw [List.filter_eq_self]; intro e he; exact hold e (List.mem_filter.1 he).1
  have e2 : ((es.filter fun e => !hasN seen e.2.2).filter fun e => !Nat.blt e.2.2 clock) = [] := by
    rw [List.filter_eq_nil_iff]; intro e he; simp [hold e (List.mem_filter.1 he).1]
  simp only [e1, e2, List.append_nil] at hc
  rcases List.mem_append.1 hc with hc | hc
  · split at hc
    · rename_i hnil
      simp at hc; subst hc
      refine .inr ?_
      obtain ⟨h1, h2, p1, p2, p3⟩ := hend (fun e he => by
        have := (List.filter_eq_nil_iff.1 hnil) e he
        simpa [hasN_eq] using this)
      exact ⟨es0, h1, h2, i.shown, p1, p2, p3⟩
    · cases hc
  · obtain ⟨e, he, rfl⟩ := List.mem_map.1 hc
    obtain ⟨he, hs⟩ := List.mem_filter.1 he
    obtain ⟨x, v, n⟩ := e
    obtain ⟨h', p1, p2⟩ := hgo (x, v, n) he (by simpa [hasN_eq] using hs)
    simp only [lapp_eq, p1]
    exact p2
/-- what 'next' gave, is what is read -/
theorem find_stamp {es : List (AV × AV × Nat)} (hs : (es.map (·.2.2)).Nodup) {e : AV × AV × Nat} (he : e ∈ es) : es.find? (fun x => Nat.beq x.2.2 e.2.2) = some e := by
  induction es with
  | nil => cases he
  | cons a l ih =>
    rw [List.map_cons, List.nodup_cons] at hs
    rw [List.find?_cons]
    rcases List.mem_cons.1 he with rfl | he
    · have : Nat.beq e.2.2 e.2.2 = true := by rw [Nat.beq_eq]
      rw [this]
    · have : Nat.beq a.2.2 e.2.2 = false := by
        cases hb : Nat.beq a.2.2 e.2.2 with
        | false => rfl
        | true => rw [Nat.beq_eq] at hb; exact absurd (List.mem_map.2 ⟨e, he, hb.symm⟩) hs.1
      rw [this]; exact ih hs.2 he
theorem Iter.entry {m r : Nat} {es0 : List (AV × AV)} {es : List (AV × AV × Nat)} {clock : Nat} {seen : List Nat} {e : AV × AV × Nat} {h : H} (i : Iter m r es0 es clock (seen ++ [e.2.2]) h) (he : e ∈ es) : aEntry (.ptr r 0) h = some (.tuple [e.1, e.2.1]) := by
  unfold aEntry
  have : Nat.beq clock clock = true := by rw [Nat.beq_eq]
  simp only [i.it, i.mp, this, List.getLast?_append, List.getLast?_singleton, Option.some_or, find_stamp i.shown.stamps he]
theorem Iter.step {m r : Nat} {es0 : List (AV × AV)} {es : List (AV × AV × Nat)} {clock : Nat} {seen seen' : List Nat} {h h' : H} (i : Iter m r es0 es clock seen h) (hp : h.put r (.miter (some m) clock seen' clock) = some h') : Iter m r es0 es clock seen' h' := by
  obtain ⟨_, _, _, _, g⟩ := hput_get hp
  exact ⟨by rw [g, if_neg i.ne]; exact i.mp, by rw [g, if_pos rfl], i.shown⟩
/-- what is still to come -/
def rest (seen : List Nat) (es : List (AV × AV × Nat)) : List (AV × AV × Nat) := es.filter fun e => !seen.contains e.2.2
theorem rest_step {es : List (AV × AV × Nat)} (hs : (es.map (·.2.2)).Nodup) {e : AV × AV × Nat} (he : e ∈ es) {seen : List Nat} (hn : e.2.2 ∉ seen) : (rest seen es).Perm (e :: rest (seen ++ [e.2.2]) es) := by
  induction es with
  | nil => cases he
  | cons a l ih =>
    rw [List.map_cons, List.nodup_cons] at hs
    rcases List.mem_cons.1 he with rfl | he
    · have h1 : rest (seen ++ [e.2.2]) l = rest seen l := by
        unfold rest
        apply List.filter_congr
        intro x hx
        have : x.2.2 ≠ e.2.2 := fun q => hs.1 (List.mem_map.2 ⟨x, hx, q⟩)
        simp [this]
      have h2 : rest seen (e :: l) = e :: rest seen l := by unfold rest; rw [List.filter_cons]; simp [hn]
      have h3 : rest (seen ++ [e.2.2]) (e :: l) = rest (seen ++ [e.2.2]) l := by unfold rest; rw [List.filter_cons]; simp
      rw [h2, h3, h1]
    · have hne : a.2.2 ≠ e.2.2 := fun q => hs.1 (List.mem_map.2 ⟨e, he, q.symm⟩)
      have ih := ih hs.2 he
      unfold rest at ih ⊢
      rw [List.filter_cons, List.filter_cons]
      by_cases ha : a.2.2 ∈ seen
      · simp only [List.contains_eq_mem, ha, decide_true, Bool.not_true, List.mem_append, true_or]
        simpa [List.contains_eq_mem] using ih
      · have hb : a.2.2 ∉ seen ++ [e.2.2] := by simp [ha, hne]
        simp only [List.contains_eq_mem, ha, hb, decide_false, Bool.not_false, if_true]
        refine .trans (.cons a ?_) (.swap _ _ _)
        simpa [List.contains_eq_mem] using ih
theorem rest_nil {es : List (AV × AV × Nat)} {seen : List Nat} (h : ∀ e ∈ es, e.2.2 ∈ seen) : rest seen es = [] := by
  unfold rest; rw [List.filter_eq_nil_iff]; intro e he; simp [h e he]
theorem rest_all (es : List (AV × AV × Nat)) : rest [] es = es := by
  unfold rest; rw [List.filter_eq_self]; intro e he; simp
end Go.Am

namespace Go.Am
open Go
theorem wrap_i64 (n : Int) : ∃ q : Int, wrapF .i64 n = n - 18446744073709551616 * q ∧ -9223372036854775808 ≤ wrapF .i64 n ∧ wrapF .i64 n < 9223372036854775808 := by
  rw [wrapF_eq]
  simp only [IntKind.wrap, IntKind.bits, IntKind.signed, Bool.true_and]
  split
  · rename_i hc; simp at hc; exact ⟨n / 18446744073709551616 + 1, by omega, by omega, by omega⟩
  · rename_i hc; simp at hc; exact ⟨n / 18446744073709551616, by omega, by omega, by omega⟩
theorem wrap_sub2 (n a b : Int) : wrapF .i64 (Int.sub (wrapF .i64 (Int.sub n a)) b) = wrapF .i64 (Int.sub (wrapF .i64 (Int.sub n b)) a) := by
  show wrapF .i64 (wrapF .i64 (n - a) - b) = wrapF .i64 (wrapF .i64 (n - b) - a)
  obtain ⟨q1, h1, _⟩ := wrap_i64 (n - a)
  obtain ⟨q2, h2, _⟩ := wrap_i64 (n - b)
  obtain ⟨q3, h3, h4, h5⟩ := wrap_i64 (wrapF .i64 (n - a) - b)
  obtain ⟨q4, h6, h7, h8⟩ := wrap_i64 (wrapF .i64 (n - b) - a)
  omega
/-- what is left when each of a list is taken off -/
noncomputable def takeOff (n : Int) (l : List Int) : Int := l.foldl (fun n x => wrapF .i64 (Int.sub n x)) n
theorem takeOff_perm {l l' : List Int} (h : l.Perm l') (n : Int) : takeOff n l = takeOff n l' :=
  h.foldl_eq' (fun x _ y _ z => wrap_sub2 z x y) n
end Go.Am

/- Arguments: a struct is told as its cells; parameters that are read. -/
namespace Go.Am
open Go Go.ChangeShapes Go.WideShapes Go.RowKit
/-- p, hidden from what would reckon it -/
structure Holds (p : Prop) : Prop where
  out : p
theorem holds_of_run {p : Prop} (h : (AV.bool true = AV.bool true) = p) : Holds p := ⟨h ▸ rfl⟩
theorem law0h {P : Program} {f : FuncId} {g : Fun} (hok : FunOk P f g) (henter : ∀ args w, (callFunc f args).run P w = .ok (.enter f args) w) {l : List AV} (hg : Holds (g l H0 isT))
    {W : World} {args : Array Value} (ha : AV.relL noMu l args.toList) : Calls P f args W fun e W' => e = .returned (.bool true) ∧ Below W.heap.size W W' := law0 hok henter hg.out ha
theorem relL_junk {μ : Mu} : ∀ {n : Nat} {vs : List Value}, vs.length = n → AV.relL μ (List.replicate n .junk) vs
  | 0, vs, h => AV.relL_nil.2 (List.length_eq_zero_iff.1 h)
  | n + 1, [], h => by cases h
  | n + 1, v :: vs, h => by
    rw [List.replicate_succ]
    exact AV.relL_cons_cons.2 ⟨by simp only [AV.rel], relL_junk (by simpa using h)⟩
theorem agg_junk {P : Program} {w : World} {r : Reach} {base : Nat} {t : TypeId} {v : Value} {fs : Array Field} {n : Nat} {μ : Mu} (ht : P.underlying t = some (.struct fs)) (hc : P.cellsOf t = n) (h : Value.okWide P w r base t v) : AV.rel μ (.agg (List.replicate n .junk)) v := by
  obtain ⟨cs, rfl, hs⟩ := okWide_struct ht h
  simp only [AV.rel]
  exact ⟨cs, rfl, relL_junk (by rw [Array.length_toList, hs, hc])⟩
theorem pars_ok {P : Program} {ts : List TypeId} (h : (ts.all fun t => P.readableRec t && Nat.blt t P.types.size) = true) : ∀ t ∈ ts, P.readableRec t = true ∧ t < P.types.size := fun t ht => by
  have := List.all_eq_true.1 h t ht
  simp only [Bool.and_eq_true, blt_iff] at this
  exact this
/-- what is told of an argument's cell: numbers, texts, bools; of the others nothing -/
def Shape (P : Program) (u : TypeId) (a : AV) : Prop :=
  match P.underlying u with
  | some (.int k) => ∃ n, a = .int k n
  | some .string => ∃ s, a = .str s
  | some .bool => ∃ b, a = .bool b
  | _ => a = .junk
def Shapes (P : Program) : List TypeId → List AV → Prop
  | [], [] => True
  | u :: us, a :: as => Shape P u a ∧ Shapes P us as
  | _, _ => False
theorem cell_shape {P : Program} {w : World} {r : Reach} {base : Nat} {u : TypeId} {v : Value} {μ : Mu} (h : Cell.okWide P w r base u v) : ∃ a, Shape P u a ∧ AV.rel μ a v := by
  unfold Shape
  cases hu : P.underlying u with
  | none => exact ⟨.junk, rfl, by simp only [AV.rel]⟩
  | some d =>
    cases d with
    | bool =>
      obtain ⟨b, rfl⟩ := okWide_bool hu (show Value.okWide P w r base u v by simp only [Value.okWide, hu]; exact h)
      exact ⟨.bool b, ⟨b, rfl⟩, by simp only [AV.rel]⟩
    | int k =>
      obtain ⟨b, rfl⟩ := okWide_int hu (show Value.okWide P w r base u v by simp only [Value.okWide, hu]; exact h)
      exact ⟨.int k b, ⟨b, rfl⟩, by simp only [AV.rel]⟩
    | string =>
      obtain ⟨b, rfl⟩ := okWide_string hu (show Value.okWide P w r base u v by simp only [Value.okWide, hu]; exact h)
      exact ⟨.str (Str.of b.data.toList), ⟨_, rfl⟩, by simp only [AV.rel]; exact ⟨b, rfl, rfl⟩⟩
    | _ => exact ⟨.junk, rfl, by simp only [AV.rel]⟩
theorem row_shape {P : Program} {w : World} {r : Reach} {base : Nat} {μ : Mu} : ∀ {ts : List TypeId} {vs : List Value}, vs.length = ts.length → (∀ (i : Nat) (v : Value), vs[i]? = some v → ∃ u, ts[i]? = some u ∧ Cell.okWide P w r base u v) → ∃ as, Shapes P ts as ∧ AV.relL μ as vs
  | [], vs, hl, _ => ⟨[], trivial, AV.relL_nil.2 (List.length_eq_zero_iff.1 hl)⟩
  | u :: ts, [], hl, _ => by cases hl
  | u :: ts, v :: vs, hl, h => by
    obtain ⟨u', hu, hc⟩ := h 0 v rfl
    have : u = u' := by simpa using hu
    subst this
    obtain ⟨a, ha, hr⟩ := cell_shape (μ := μ) hc
    obtain ⟨as, has, hrs⟩ := row_shape (μ := μ) (ts := ts) (vs := vs) (by simpa using hl) fun i v hv => by simpa using h (i + 1) v (by simpa using hv)
    exact ⟨a :: as, ⟨ha, has⟩, AV.relL_cons_cons.2 ⟨hr, hrs⟩⟩
theorem agg_shape {P : Program} {w : World} {r : Reach} {base : Nat} {t : TypeId} {v : Value} {fs : Array Field} {ts : List TypeId} {μ : Mu} (ht : P.underlying t = some (.struct fs)) (hts : P.cellTypes P.depth t = some ts) (hc : P.cellsOf t = ts.length) (h : Value.okWide P w r base t v) : ∃ as, Shapes P ts as ∧ AV.rel μ (.agg as) v := by
  simp only [Value.okWide, ht] at h
  obtain ⟨cs, rfl, hs, ts', h1, _, h2⟩ := h
  rw [hts] at h1
  injection h1 with h1; subst h1
  have hl : cs.toList.length = ts.length := by rw [Array.length_toList, hs, hc]
  obtain ⟨as, q1, q2⟩ := row_shape (P := P) (w := w) (r := r) (base := base) (μ := μ) (ts := ts) (vs := cs.toList) hl fun i v hv => by
    rw [Array.getElem?_toList] at hv
    obtain ⟨u, hu, hok⟩ := h2 i v hv
    have hi : i < cs.size := (Array.getElem?_eq_some_iff.1 hv).1
    have hi' : i < ts.length := by rw [← hl, Array.length_toList]; exact hi
    rw [Nat.mod_eq_of_lt hi'] at hu
    exact ⟨u, hu, hok⟩
  exact ⟨as, q1, by simp only [AV.rel]; exact ⟨cs, rfl, q2⟩⟩
end Go.Am

/- Ranges over functions, as they are printed. -/
namespace Go.Am
open Go
/-- the codes of the ranges over functions in a piece of code -/
def rfCodes : Code → List (Code × Code)
  | .seq a b => rfCodes a ++ rfCodes b
  | .cond _ a b => rfCodes a ++ rfCodes b
  | .block _ b => rfCodes b
  | .loop b => rfCodes b
  | .scope b => rfCodes b
  | .rangeFunc _ _ a b => [(a, b)]
  | _ => []
def rfAt (f : Func) (i : Nat) : Code × Code :=
  match f.body with
  | some c => (rfCodes c).getD i (.skip, .skip)
  | none => (.skip, .skip)
noncomputable def rfK (G : Gam) (v : AV) (ps : List Nat) (c : Code × Code) (env : List AV) (h : H) (k : Nat → Nat → H → Prop) : Prop :=
  match v with
  | .func (.func f) first captured => pushK (.defd true) h fun id0 h => pushK (.loop .ready none ps c.1 c.2 env) h fun id1 h => G.it f (first ++ (.yield id1 :: captured)) h fun _ h => k id0 id1 h
  | _ => False
noncomputable def endR (id0 id1 : Nat) (norm ret : List Dfr → H → Prop) (ex : Nat → List Dfr → H → Prop) (ds : List Dfr) (h : H) : Prop :=
  match h.get id1 with
  | .loop .busy _ _ _ _ _ => False
  | .loop _ pend _ _ _ _ => setLoop id1 .exhausted pend h fun h' => match pend with
    | none => norm (.coll id0 :: ds) h'
    | some .ret => ret (.coll id0 :: ds) h'
    | some (.exit i) => ex i (.coll id0 :: ds) h'
    | _ => False
  | _ => False
noncomputable def exB (c : Bool) (p q : List Dfr → H → Prop) : List Dfr → H → Prop :=
  match c with
  | true => p
  | false => q
noncomputable def markF (x : AV) (h : H) (k : AV → H → Prop) : Prop :=
  match aMark x h with
  | some p => match h.put p.1 p.2 with
    | some h' => k x h'
    | none => False
  | none => False
end Go.Am

/- What is asked of the rest may be weakened: each piece in continuation style is monotone. -/
namespace Go.Am
open Go
theorem fN_mono {n : Nat} {k k' : Nat → Prop} (hk : ∀ x, k x → k' x) : fN n k → fN n k' := by rw [fN_eq, fN_eq]; exact hk _
theorem fI_mono {n : Int} {k k' : Int → Prop} (hk : ∀ x, k x → k' x) : fI n k → fI n k' := by rw [fI_eq, fI_eq]; exact hk _
theorem fB_mono {n : Bool} {k k' : Bool → Prop} (hk : ∀ x, k x → k' x) : fB n k → fB n k' := by rw [fB_eq, fB_eq]; exact hk _
theorem fS_mono {n : Str} {k k' : Str → Prop} (hk : ∀ x, k x → k' x) : fS n k → fS n k' := by rw [fS_eq, fS_eq]; exact hk _
theorem br_mono {c : Bool} {p p' q q' : Prop} (h1 : p → p') (h2 : q → q') : br c p q → br c p' q' := by
  rw [br_iff, br_iff]; rintro (⟨a, b⟩ | ⟨a, b⟩); exact .inl ⟨a, h1 b⟩; exact .inr ⟨a, h2 b⟩
theorem ck_mono {c : Bool} {p p' : Prop} (h1 : p → p') : ck c p → ck c p' := by rw [ck_iff, ck_iff]; exact fun h => ⟨h.1, h1 h.2⟩
theorem op_mono {α : Type} {o : Option α} {k k' : α → Prop} (hk : ∀ x, k x → k' x) : op' o k → op' o k' := by
  rw [op'_iff, op'_iff]; rintro ⟨a, b, c⟩; exact ⟨a, b, hk _ c⟩
theorem asI_mono {kk : IntKind} {v : AV} {k k' : Int → Prop} (hk : ∀ x, k x → k' x) : asI kk v k → asI kk v k' := by
  rw [asI_iff, asI_iff]; rintro ⟨a, b, c⟩; exact ⟨a, b, hk _ c⟩
theorem asB_mono {v : AV} {k k' : Bool → Prop} (hk : ∀ x, k x → k' x) : asB v k → asB v k' := by
  rw [asB_iff, asB_iff]; rintro ⟨a, b, c⟩; exact ⟨a, b, hk _ c⟩
theorem asS_mono {v : AV} {k k' : Str → Prop} (hk : ∀ x, k x → k' x) : asS v k → asS v k' := by
  rw [asS_iff, asS_iff]; rintro ⟨a, b, c⟩; exact ⟨a, b, hk _ c⟩
theorem asAgg_mono {v : AV} {k k' : List AV → Prop} (hk : ∀ x, k x → k' x) : Go.Am.asAgg v k → Go.Am.asAgg v k' := by
  rw [asAgg_iff, asAgg_iff]; rintro ⟨a, b, c⟩; exact ⟨a, b, hk _ c⟩
theorem asTup_mono {v : AV} {k k' : List AV → Prop} (hk : ∀ x, k x → k' x) : Go.Am.asTup v k → Go.Am.asTup v k' := by
  rw [asTup_iff, asTup_iff]; rintro ⟨a, b, c⟩; exact ⟨a, b, hk _ c⟩
theorem asNat_mono {v : AV} {k k' : Nat → Prop} (hk : ∀ x, k x → k' x) : asNat v k → asNat v k' := by
  rw [asNat_iff, asNat_iff]; rintro ⟨a, b, c, d⟩; exact ⟨a, b, c, hk _ d⟩
theorem asPtr_mono {v : AV} {k k' : Nat → Nat → Prop} (hk : ∀ x y, k x y → k' x y) : asPtr v k → asPtr v k' := by
  rw [asPtr_iff, asPtr_iff]; rintro ⟨a, b, c, d⟩; exact ⟨a, b, c, hk _ _ d⟩
theorem asPG_mono {v : AV} {k k' k2 k2' : Nat → Nat → Prop} (hk : ∀ x y, k x y → k' x y) (hk2 : ∀ x y, k2 x y → k2' x y) : asPG v k k2 → asPG v k' k2' := by
  rw [asPG_iff, asPG_iff]
  rintro (⟨a, b, c, d⟩ | ⟨a, b, c, d⟩)
  · exact .inl ⟨a, b, c, hk _ _ d⟩
  · exact .inr ⟨a, b, c, hk2 _ _ d⟩
theorem asSl_mono {v : AV} {n n' : Prop} {k k' : Nat → Nat → Nat → Nat → Nat → Bool → Prop} (hn : n → n') (hk : ∀ a b c d e f, k a b c d e f → k' a b c d e f) : asSl v n k → asSl v n' k' := by
  rw [asSl_iff, asSl_iff]
  rintro (⟨a, b⟩ | ⟨a, b, c, d, e, f, g, q⟩)
  · exact .inl ⟨a, hn b⟩
  · exact .inr ⟨a, b, c, d, e, f, g, hk _ _ _ _ _ _ q⟩
theorem asRow'_mono {b : Blk} {k1 k1' : Bool → Nat → List AV → Prop} {k2 k2' : Nat → Nat → Bool → Str → Prop} (h1 : ∀ m t cs, k1 m t cs → k1' m t cs) (h2 : ∀ t f g s, k2 t f g s → k2' t f g s) : asRow' b k1 k2 → asRow' b k1' k2' := by
  rw [asRow'_iff, asRow'_iff]
  rintro (⟨a, b, c, d, q⟩ | ⟨a, b, c, d, e, q⟩)
  · exact .inl ⟨a, b, c, d, h1 _ _ _ q⟩
  · exact .inr ⟨a, b, c, d, e, h2 _ _ _ _ q⟩
theorem glK_mono {h : H} {g : Nat} {k k' : List AV → Prop} (hk : ∀ cs, k cs → k' cs) : glK h g k → glK h g k' := ck_mono (asRow'_mono (fun _ _ cs => ck_mono (hk cs)) fun _ _ _ _ h => h)
theorem okNil_mono {v : AV} {p p' : Prop} (hp : p → p') : okNil v p → okNil v p' := fun h => by
  cases v <;> first | exact h.elim | exact hp h | skip
  rename_i fn _ _
  cases fn <;> first | exact h.elim | exact hp h
theorem nilB_mono {c : Nat} {v : AV} {k k' : Bool → Prop} (hk : ∀ b, k b → k' b) : nilB c v k → nilB c v k' := br_mono (hk _) (ck_mono (hk _))
theorem pickB_mono {c a b : AV} {k k' : Bool → Prop} (hk : ∀ b, k b → k' b) : pickB c a b k → pickB c a b k' := asB_mono fun _ => br_mono (asB_mono hk) (asB_mono hk)
theorem pickI_mono {kk : IntKind} {c a b : AV} {k k' : Int → Prop} (hk : ∀ b, k b → k' b) : pickI kk c a b k → pickI kk c a b k' := asB_mono fun _ => br_mono (asI_mono hk) (asI_mono hk)
theorem pickS_mono {c a b : AV} {k k' : Str → Prop} (hk : ∀ b, k b → k' b) : pickS c a b k → pickS c a b k' := asB_mono fun _ => br_mono (asS_mono hk) (asS_mono hk)
theorem pickV_mono {c a b : AV} {k k' : AV → Prop} (hk : ∀ b, k b → k' b) : pickV c a b k → pickV c a b k' := asB_mono fun _ => br_mono (hk _) (hk _)
theorem obK_mono {o : Option AV} {k k' : Bool → Prop} (hk : ∀ b, k b → k' b) : obK o k → obK o k' := op_mono fun _ => asB_mono hk
theorem pushK_mono {b : Blk} {h : H} {k k' : Nat → H → Prop} (hk : ∀ n h, k n h → k' n h) : pushK b h k → pushK b h k' := by
  rw [pushK_eq, pushK_eq]; exact hk _ _
theorem putK_mono {i : Nat} {b : Blk} {h : H} {k k' : H → Prop} (hk : ∀ h, k h → k' h) : putK i b h k → putK i b h k' := by
  rw [putK_iff, putK_iff]; rintro ⟨a, b, c⟩; exact ⟨a, b, hk _ c⟩
theorem faK_mono {off : Nat} {p : AV} {k k' : AV → Prop} (hk : ∀ v, k v → k' v) : faK off p k → faK off p k' := asPG_mono (fun _ _ => fN_mono fun _ => hk _) fun _ _ => fN_mono fun _ => hk _
theorem ixK_mono {size : Nat} {s i : AV} {k k' : AV → Prop} (hk : ∀ v, k v → k' v) : ixK size s i k → ixK size s i k' := asSl_mono (fun h => h) fun _ _ _ _ _ _ => asNat_mono fun _ => ck_mono (fN_mono fun _ => hk _)
theorem ixsK_mono {s i : AV} {k k' : Int → Prop} (hk : ∀ v, k v → k' v) : ixsK s i k → ixsK s i k' := asS_mono fun _ => asNat_mono fun _ => ck_mono (fN_mono fun _ => hk _)
theorem bndK_mono {d : Nat} {x : Option AV} {k k' : Nat → Prop} (hk : ∀ v, k v → k' v) : bndK d x k → bndK d x k' := by
  cases x with
  | none => exact hk _
  | some v => exact asNat_mono hk
theorem slK_mono {size : Nat} {v : AV} {lo hi : Option AV} {k k' : AV → Prop} (hk : ∀ v, k v → k' v) : slK size v lo hi k → slK size v lo hi k' :=
  asSl_mono (bndK_mono fun _ => bndK_mono fun _ => ck_mono (ck_mono (hk _))) fun _ _ _ _ _ _ => bndK_mono fun _ => bndK_mono fun _ => ck_mono (ck_mono (ck_mono (br_mono (fN_mono fun _ => hk _) (fN_mono fun _ => fN_mono fun _ => fN_mono fun _ => hk _))))
theorem ldV_mono {p : AV} {h : H} {k k' : AV → Prop} (hk : ∀ v, k v → k' v) : ldV p h k → ldV p h k' := asPG_mono (fun _ _ => asRow'_mono (fun _ _ _ => op_mono hk) fun _ _ _ _ => ck_mono (fN_mono fun _ => hk _)) fun _ _ => glK_mono fun _ => op_mono hk
theorem ldB_mono {p : AV} {h : H} {k k' : Bool → Prop} (hk : ∀ v, k v → k' v) : ldB p h k → ldB p h k' := ldV_mono fun _ => asB_mono hk
theorem ldI_mono {kk : IntKind} {p : AV} {h : H} {k k' : Int → Prop} (hk : ∀ v, k v → k' v) : ldI kk p h k → ldI kk p h k' := ldV_mono fun _ => asI_mono hk
theorem ldS_mono {p : AV} {h : H} {k k' : Str → Prop} (hk : ∀ v, k v → k' v) : ldS p h k → ldS p h k' := ldV_mono fun _ => asS_mono hk
theorem ldN_mono {n : Nat} {p : AV} {h : H} {k k' : List AV → Prop} (hk : ∀ v, k v → k' v) : ldN n p h k → ldN n p h k' := asPG_mono (fun _ _ => asRow'_mono (fun _ _ _ => op_mono hk) fun _ _ _ _ h => h) fun _ _ => glK_mono fun _ => op_mono hk
theorem stV_mono {p x : AV} {h : H} {k k' : H → Prop} (hk : ∀ h, k h → k' h) : stV p x h k → stV p x h k' :=
  asPtr_mono fun _ _ => asRow'_mono (fun _ _ _ => ck_mono (op_mono fun _ => putK_mono hk)) fun _ _ _ _ => asNat_mono fun _ => ck_mono (ck_mono (ck_mono (fS_mono fun _ => asI_mono fun _ => putK_mono hk)))
theorem stN_mono {n : Nat} {p : AV} {xs : List AV} {h : H} {k k' : H → Prop} (hk : ∀ h, k h → k' h) : stN n p xs h k → stN n p xs h k' :=
  asPtr_mono fun _ _ => asRow'_mono (fun _ _ _ => ck_mono (ck_mono (op_mono fun _ => putK_mono hk))) fun _ _ _ _ h => h
theorem lenK_mono {v : AV} {k k' : Nat → Prop} (hk : ∀ n, k n → k' n) : lenK v k → lenK v k' := asSl_mono (hk _) fun _ _ _ _ _ _ => hk _
theorem leaveK_mono {G : Gam} (hd : ∀ f as h k k', (∀ r h, k r h → k' r h) → G.dfn f as h k → G.dfn f as h k') : ∀ {ds : List Dfr} {h : H} {k k' : H → Prop}, (∀ h, k h → k' h) → leaveK G ds h k → leaveK G ds h k'
  | [], h, k, k', hk => hk h
  | .coll id :: ds, h, k, k', hk => fun q => by
    unfold leaveK at q ⊢
    split at q
    · exact putK_mono (fun h => leaveK_mono hd hk) q
    · exact q.elim
  | .call f as cs :: ds, h, k, k', hk => hd _ _ _ _ _ fun _ _ => leaveK_mono hd hk
theorem leave_gam {J : Joins} {l : List (Nat × Fun)} {ds : List Dfr} {h : H} {k k' : H → Prop} (hk : ∀ h, k h → k' h) : leaveK (gam J l) ds h k → leaveK (gam J l) ds h k' := leaveK_mono (fun _ _ _ _ _ _ q => q) hk
theorem jn_mono {j j' : AV → H → Prop} {b b' : (AV → H → Prop) → Prop} (hj : ∀ v h, j v h → j' v h) (hb : ∀ j j', (∀ v h, j v h → j' v h) → b j → b' j') : J0.jn j b → J0.jn j' b' := hb _ _ hj
theorem jb_mono {j j' : Bool → AV → Prop} {b b' : (Bool → AV → Prop) → Prop} (hj : ∀ v h, j v h → j' v h) (hb : ∀ j j', (∀ v h, j v h → j' v h) → b j → b' j') : J0.jb j b → J0.jb j' b' := hb _ _ hj
theorem jd_mono {α : Type} {j j' : α → List Dfr → H → Prop} {b b' : (α → List Dfr → H → Prop) → Prop} (hj : ∀ v d h, j v d h → j' v d h) (hb : ∀ j j', (∀ v d h, j v d h → j' v d h) → b j → b' j') : J0.jd j b → J0.jd j' b' := hb _ _ hj
theorem loopN_mono {α : Type} {b b' : (α → List Dfr → H → Prop) → α → List Dfr → H → Prop} (hb : ∀ s s' : α → List Dfr → H → Prop, (∀ v d h, s v d h → s' v d h) → ∀ v d h, b s v d h → b' s' v d h) : ∀ (n : Nat) (v : α) (d : List Dfr) (h : H), loopN b n v d h → loopN b' n v d h
  | 0, _, _, _ => fun h => h
  | n + 1, v, d, h => hb _ _ (loopN_mono hb n) v d h
theorem lp_mono {α : Type} {b b' : (α → List Dfr → H → Prop) → α → List Dfr → H → Prop} {v : α} {d : List Dfr} {h : H} (hb : ∀ s s' : α → List Dfr → H → Prop, (∀ v d h, s v d h → s' v d h) → ∀ v d h, b s v d h → b' s' v d h) : J0.lp b v d h → J0.lp b' v d h := by
  rw [J0.lp_ok, J0.lp_ok]; exact loopN_mono hb _ _ _ _
/-! ## pointers into the heap alone -/
noncomputable def faP (off : Nat) (p : AV) (k : AV → Prop) : Prop := Go.Am.asPtr p fun id o => fN (Nat.add o off) fun o => k (.ptr id o)
noncomputable def ldP (p : AV) (h : H) (k : AV → Prop) : Prop := Go.Am.asPtr p fun id off => asRow' (h.get id) (fun _ _ cs => op' (lgetO cs off) k) fun _ _ _ s => ck (Nat.blt off s.len) (fN (s.get off) fun c => k (.int .u8 (Int.ofNat c)))
theorem faP_up {off : Nat} {p : AV} {k : AV → Prop} (q : faP off p k) : faK off p k := by
  unfold faP at q; rw [asPtr_iff] at q
  obtain ⟨i, o, rfl, q⟩ := q; exact q
theorem ldP_up {p : AV} {h : H} {k : AV → Prop} (q : ldP p h k) : ldV p h k := by
  unfold ldP at q; rw [asPtr_iff] at q
  obtain ⟨i, o, rfl, q⟩ := q; exact q
theorem ldV_eq {p : AV} {h : H} {k : AV → Prop} (q : ldV p h k) : ∃ v, (∀ k' : AV → Prop, ldV p h k' = k' v) ∧ k v := by
  unfold ldV at q ⊢
  rw [asPG_iff] at q
  rcases q with ⟨i, o, rfl, q⟩ | ⟨i, o, rfl, q⟩
  · rw [asRow'_iff] at q
    rcases q with ⟨m, t, cs, g, q⟩ | ⟨t, f, gg, s, g, q⟩
    · rw [op'_iff] at q
      obtain ⟨a, ga, q⟩ := q
      exact ⟨a, fun k' => by show asRow' (h.get i) _ _ = _; rw [g]; show op' (lgetO cs o) k' = _; rw [ga]; rfl, q⟩
    · rw [ck_iff, fN_eq] at q
      exact ⟨_, fun k' => by show asRow' (h.get i) _ _ = _; rw [g]; show ck _ _ = _; rw [q.1, fN_eq]; rfl, q.2⟩
  · obtain ⟨t, cs, h1, h2, q⟩ := glK_imp q
    rw [op'_iff] at q
    obtain ⟨a, ga, q⟩ := q
    exact ⟨a, fun k' => by show glK h i _ = _; unfold glK; rw [h1, h2]; show op' (lgetO cs o) k' = _; rw [ga]; rfl, q⟩
end Go.Am

/- The package variables, as a row lists them, in the abstract heap: block g is global g. -/
namespace Go.Am
open Go Go.ChangeShapes Go.RowKit

noncomputable def trOf : List Blk → Nat → Tr → Tr
  | [], _, t => t
  | b :: bs, i, t => trOf bs (i + 1) (Tr.set t i b)
noncomputable def Hg (gs : List Blk) : H := ⟨trOf gs 0 .lf, gs.length, gs.length⟩
theorem trOf_get : ∀ (gs : List Blk) (i : Nat) (t : Tr) (j : Nat), Tr.get (trOf gs i t) j = if i ≤ j ∧ j < i + gs.length then gs.getD (j - i) .dead else Tr.get t j
  | [], i, t, j => by
    show Tr.get t j = _
    rw [if_neg (by simp)]
  | b :: bs, i, t, j => by
    show Tr.get (trOf bs (i + 1) (Tr.set t i b)) j = _
    rw [trOf_get bs (i + 1) _ j, Tr.get_set]
    by_cases h1 : i + 1 ≤ j ∧ j < i + 1 + bs.length
    · rw [if_pos h1, if_pos (by simp; omega), show j - i = (j - (i + 1)) + 1 from by omega]; simp
    · rw [if_neg h1]
      by_cases h2 : j = i
      · subst h2; rw [if_pos rfl, if_pos (by simp)]; simp
      · rw [if_neg h2, if_neg (by simp; omega)]
theorem Hg_get (gs : List Blk) (i : Nat) : (Hg gs).get i = gs.getD i .dead := by
  rw [H.get_eq]
  show (if i < gs.length then Tr.get (trOf gs 0 .lf) i else .dead) = _
  rw [trOf_get]
  by_cases h : i < gs.length
  · rw [if_pos h, if_pos ⟨Nat.zero_le _, by omega⟩]; simp
  · rw [if_neg h]; simp [List.getElem?_eq_none (Nat.le_of_not_lt h)]
/-- what is told of one global -/
def GlOk (W : World) (g : Nat) (b : Blk) : Prop :=
  b = .dead ∨ ∃ (t : Nat) (cs : List AV) (ccs : Array Value), b = .cells false t cs ∧ W.heap[g]? = some (.cells ccs t (0, 0)) ∧ ∀ (i : Nat) (a : AV), cs[i]? = some a → ∃ v, ccs[i]? = some v ∧ AV.rel noMu a v
def rowSize (W : World) (g : Nat) : Nat :=
  match W.heap[g]? with
  | some (.cells ccs _ _) => ccs.size
  | _ => 0
theorem rel_hg {W : World} {gs : List Blk} (h : ∀ g b, gs[g]? = some b → GlOk W g b) : ∃ μ, Rel μ (Hg gs) W ∧ ∀ id b d, (Hg gs).base ≤ id → μ id = some (b, d) → ((Hg gs).get id).live = false := by
  have hlive : ∀ g, ((Hg gs).get g).live = true → ∃ (t : Nat) (cs : List AV) (ccs : Array Value), (Hg gs).get g = .cells false t cs ∧ g < gs.length ∧ W.heap[g]? = some (.cells ccs t (0, 0)) ∧ ∀ (i : Nat) (a : AV), cs[i]? = some a → ∃ v, ccs[i]? = some v ∧ AV.rel noMu a v := by
    intro g hg
    rw [Hg_get] at hg ⊢
    rcases Nat.lt_or_ge g gs.length with hl | hl
    · have he : gs[g]? = some gs[g] := List.getElem?_eq_getElem hl
      rw [List.getD_eq_getElem?_getD, he] at hg ⊢
      rcases h g gs[g] he with e | ⟨t, cs, ccs, e, h1, h2⟩
      · simp only [Option.getD_some] at hg; rw [e] at hg; cases hg
      · exact ⟨t, cs, ccs, e, hl, h1, h2⟩
    · rw [List.getD_eq_getElem?_getD, List.getElem?_eq_none hl] at hg; cases hg
  have hm : ∀ g b d, (if ((Hg gs).get g).live = true then some (g, 0) else none) = some (b, d) → b = g ∧ d = 0 ∧ ((Hg gs).get g).live = true := by
    intro g b d e
    split at e
    · rename_i hl; injection e with e; injection e with e1 e2; exact ⟨e1.symm, e2.symm, hl⟩
    · cases e
  refine ⟨⟨fun g => if ((Hg gs).get g).live = true then some (g, 0) else none, rowSize W⟩, ⟨⟨Nat.le_refl _⟩, fun g b d e => ?_, fun i j b d e hi hj _ _ => ?_, fun g b d e => ?_, fun g b d ccs t fr e hw => ?_, fun g t cs _ e => ?_⟩, fun g b d hb e => ?_⟩
  · obtain ⟨rfl, rfl, hl⟩ := hm g b d e
    obtain ⟨t, cs, ccs, _, h1, h2, _⟩ := hlive _ hl
    exact ⟨h1, (Array.getElem?_eq_some_iff.1 h2).1⟩
  · obtain ⟨q, _, _⟩ := hm i b d hi; obtain ⟨q2, _, _⟩ := hm j b e hj; rw [← q, ← q2]
  · obtain ⟨rfl, rfl, hl⟩ := hm g b d e
    obtain ⟨t, cs, ccs, h0, h1, h2, h3⟩ := hlive _ hl
    rw [h0]
    exact ⟨ccs, (0, 0), h2, fun i a ha => by
      obtain ⟨v, hv, hr⟩ := h3 i a ha
      exact ⟨v, by rw [Nat.zero_add]; exact hv, AV.rel_mono (fun _ _ h => by cases h) a v hr⟩, fun o _ _ h => by simp at h, fun _ => rfl⟩
  · obtain ⟨rfl, rfl, hl⟩ := hm g b d e
    show ccs.size = rowSize W b
    unfold rowSize; rw [hw]
  · show (if ((Hg gs).get g).live = true then some (g, 0) else none) = some (g, 0)
    rw [e]; rfl
  · obtain ⟨rfl, rfl, hl⟩ := hm g b d e
    obtain ⟨t, cs, ccs, _, h1, _⟩ := hlive _ hl
    exact absurd hb (Nat.not_le.2 h1)

/-! ## out of the rows' data -/
def litAV : DataW Unit → AV
  | .lit (.int k n) => .int k n
  | .lit (.bool b) => .bool b
  | _ => .junk
def glAV (P : Program) (t : TypeId) (u : Nat) (d : DataW Unit) : List AV :=
  match P.underlying t, d with
  | some (.array _ e), .agg ds => match P.cellsOf e with
    | 1 => ds.map litAV
    | _ => []
  | some (.interface _), .iface _ _ => [.iface u .junk]
  | _, _ => []
theorem lit_ok {P : Program} {W : World} {base : Nat} {sp : Nat → Bool} {held : Bool} {fuel : Nat} {t : TypeId} {cs : List Value} {d : DataW Unit} {p : List MemPlace} {v : Value} (h : DataW.trod (fun _ => ()) P W base sp held fuel t cs = some (d, p)) (hc : cs = [v]) : AV.rel noMu (litAV d) v := by
  subst hc
  have key : ∀ l, d = .lit l → v = (match l with | .int k n => .int k n | .bool b => .bool b | _ => v) := by
    rintro l rfl
    cases fuel with
    | zero => simp [DataW.trod] at h
    | succ n =>
      unfold DataW.trod at h
      split at h
      all_goals first
        | (simp at h; done)
        | (split at h <;> first | (simp at h; done) | (injection h with h; injection h with h _; injection h with h; subst h; simp_all; done) | skip)
        | (injection h with h; injection h with h _; injection h with h; subst h; simp_all; done)
        | skip
      · simp only [Option.map_eq_some_iff] at h
        obtain ⟨_, _, h⟩ := h; cases h
      · simp only [Option.map_eq_some_iff, Option.bind_eq_some_iff] at h
        obtain ⟨_, _, _, _, h⟩ := h; cases h
      · split at h
        · simp only [Option.bind_eq_some_iff] at h
          obtain ⟨_, _, h⟩ := h
          split at h <;> cases h
        · cases h
  unfold litAV
  split
  · have := key _ rfl; simp only at this; rw [this]; simp [AV.rel]
  · have := key _ rfl; simp only at this; rw [this]; simp [AV.rel]
  · simp [AV.rel]
theorem iface_ok {P : Program} {W : World} {base : Nat} {sp : Nat → Bool} {fuel : Nat} {t : TypeId} {cs : List Value} {d : DataW Unit} {s : String} {p : List MemPlace} {ms : Array (String × TypeId)} (ht : P.underlying t = some (.interface ms)) (h : DataW.trod (fun _ => ()) P W base sp false fuel t cs = some (.iface s d, p)) : ∃ u v, cs = [.iface u v] := by
  cases fuel with
  | zero => simp [DataW.trod] at h
  | succ n =>
    unfold DataW.trod at h
    rw [ht] at h
    split at h <;> simp_all
theorem glAV_ok {P : Program} {W : World} {fuel : Nat} {t : TypeId} {cs : List Value} {d : DataW Unit} {p : List MemPlace} (h : DataW.trod (fun _ => ()) P W 0 (fun _ => true) false fuel t cs = some (d, p)) :
    ∃ u, ∀ (i : Nat) (a : AV), (glAV P t u d)[i]? = some a → ∃ v, cs[i]? = some v ∧ AV.rel noMu a v := by
  by_cases hi : ∃ ms s x, P.underlying t = some (.interface ms) ∧ d = .iface s x
  · obtain ⟨ms, s, x, ht, rfl⟩ := hi
    obtain ⟨u, v, rfl⟩ := iface_ok ht h
    refine ⟨u, fun i a e => ?_⟩
    unfold glAV at e; rw [ht] at e
    cases i with
    | zero =>
      simp at e; subst e
      exact ⟨_, rfl, by simp [AV.rel]⟩
    | succ i => simp at e
  · refine ⟨0, fun i a e => ?_⟩
    unfold glAV at e
    split at e
    · rename_i n e' ds ht
      split at e
      · rename_i hc
        obtain ⟨xs, m, _, hx, hl, hxn, hall⟩ := DataW.trod_array ht h
        injection hx with hx1 hx2
        injection hx1 with hx1
        subst hx1
        rw [List.getElem?_map, List.getElem?_map, Option.map_map, Option.map_eq_some_iff] at e
        obtain ⟨y, hy, rfl⟩ := e
        have hin : i < n := by rw [← hxn]; exact (List.getElem?_eq_some_iff.1 hy).1
        have hq := hall i hin
        rw [hy, hc, Nat.mul_one] at hq
        have hlen : i < cs.length := by
          rcases Nat.lt_or_ge i cs.length with q | q
          · exact q
          · rw [List.drop_eq_nil_of_le q] at hq
            exfalso
            cases m with
            | zero => simp [DataW.trod] at hq
            | succ m =>
              simp only [List.take_nil] at hq
              unfold DataW.trod at hq
              split at hq <;> simp_all
        refine ⟨cs[i], List.getElem?_eq_getElem hlen, lit_ok (p := y.2) (fuel := m) (d := y.1) hq ?_⟩
        rw [List.drop_eq_getElem_cons hlen]; rfl
      · simp at e
    · rename_i ms s x ht; exact absurd ⟨ms, s, x, ht, rfl⟩ hi
    · simp at e
/-- what is told of global g, of type t -/
def glBlk (P : Program) (laid : List (String × DataW Unit)) (ts us : Nat → Nat) (g : Nat) : Blk :=
  match laid.find? fun x => P.globalNamed x.1 == some g, (P.globals[g]?).map (·.type) with
  | some x, some t => match glAV P t (us g) x.2 with
    | [] => .dead
    | a :: as => .cells false (ts g) (a :: as)
  | _, _ => .dead
def glBlks (P : Program) (laid : List (String × DataW Unit)) (ts us : Nat → Nat) : List Blk := (List.range P.globals.size).map (glBlk P laid ts us)
theorem laid_at {P : Program} {W : World} : ∀ {l : List (String × DataW Unit)} {ps : List MemPlace}, DataW.LaidVars P W l ps → ∀ x ∈ l, ∃ g t cs fuel p, P.globalNamed x.1 = some g ∧ (P.globals[g]?).map (·.type) = some t ∧ W.var? P x.1 = some cs ∧
    DataW.trod (fun _ => ()) P W 0 (fun _ => true) false fuel t cs.toList = some (x.2, p) ∧ ∀ y ∈ MemPlace.row ⟨g, 0, none⟩ cs.size, y ∈ ps
  | [], _, _, x, hx => by cases hx
  | (n, d) :: r, ps, h, x, hx => by
    obtain ⟨g, t, cs, fuel, p, q, h1, h2, h3, h4, h5, rfl⟩ := h
    rcases List.mem_cons.1 hx with rfl | hx
    · exact ⟨g, t, cs, fuel, p, h1, h2, h3, h4, fun y hy => by simp [hy]⟩
    · obtain ⟨g, t, cs, fuel, p, a1, a2, a3, a4, a5⟩ := laid_at h5 x hx
      exact ⟨g, t, cs, fuel, p, a1, a2, a3, a4, fun y hy => by have := a5 y hy; simp [this]⟩
theorem glBlk_ok {P : Program} {W : World} {laid : List (String × DataW Unit)} (hl : laidMet P laid W) (g : Nat) : ∃ t u, ∀ ts us : Nat → Nat, ts g = t → us g = u → GlOk W g (glBlk P laid ts us g) := by
  obtain ⟨ps, hv, _, hr⟩ := hl
  cases hf : laid.find? fun x => P.globalNamed x.1 == some g with
  | none => exact ⟨0, 0, fun ts us _ _ => .inl (by simp only [glBlk, hf])⟩
  | some x =>
    have hx : x ∈ laid := List.mem_of_find?_eq_some hf
    have hp := List.find?_some hf
    obtain ⟨g', ty, cs, fuel, p, a1, a2, a3, a4, a5⟩ := laid_at hv x hx
    have hg : g' = g := by simp only [a1, beq_iff_eq] at hp; injection hp
    subst hg
    obtain ⟨u, hu⟩ := glAV_ok a4
    have hw : ∃ t fr, W.heap[g']? = some (.cells cs t fr) := by
      unfold World.var? at a3
      rw [a1] at a3
      simp only [Option.bind_some] at a3
      split at a3
      · rename_i c t fr hh; injection a3 with a3; subst a3; exact ⟨_, _, hh⟩
      · cases a3
    obtain ⟨t, fr, hw⟩ := hw
    refine ⟨t, u, fun ts us e1 e2 => ?_⟩
    unfold glBlk
    rw [hf, a2]
    simp only
    rw [e2]
    cases hq : glAV P ty u x.2 with
    | nil => exact .inl rfl
    | cons a as =>
      rw [hq] at hu
      obtain ⟨v, hv0, _⟩ := hu 0 a rfl
      have hpos : 0 < cs.size := by
        rcases Nat.eq_zero_or_pos cs.size with q | q
        · rw [Array.eq_empty_of_size_eq_zero q] at hv0; simp at hv0
        · exact q
      obtain ⟨⟨c, t', hc⟩, _⟩ := hr g' 0 (a5 _ (by simp [MemPlace.row]; exact hpos))
      rw [hw] at hc; injection hc with hc; injection hc with _ _ hfr
      subst hfr
      refine .inr ⟨_, _, cs, rfl, by rw [e1]; exact hw, fun i a ha => ?_⟩
      obtain ⟨v, h1, h2⟩ := hu i a ha
      exact ⟨v, by rw [← Array.getElem?_toList]; exact h1, h2⟩
theorem rel_laid {P : Program} {W : World} {laid : List (String × DataW Unit)} (hl : laidMet P laid W) : ∃ ts us μ, Rel μ (Hg (glBlks P laid ts us)) W ∧ ∀ id b d, (Hg (glBlks P laid ts us)).base ≤ id → μ id = some (b, d) → ((Hg (glBlks P laid ts us)).get id).live = false := by
  have h := glBlk_ok hl
  refine ⟨fun g => (h g).choose, fun g => (h g).choose_spec.choose, ?_⟩
  refine rel_hg fun g b e => ?_
  unfold glBlks at e
  rw [List.getElem?_map, Option.map_eq_some_iff] at e
  obtain ⟨g', e1, rfl⟩ := e
  obtain rfl : g' = g := by
    rw [List.getElem?_range] at e1
    · injection e1 with e1; exact e1.symm
    · have := (List.getElem?_eq_some_iff.1 e1).1; simpa using this
  exact (h g').choose_spec.choose_spec _ _ rfl rfl
theorem rel_laidH {P : Program} {W : World} {laid : List (String × DataW Unit)} (hl : laidMetH P laid W) (hp : (laid.filter fun x => x.2.handleName?.isSome) = []) : ∃ ts us μ, Rel μ (Hg (glBlks P laid ts us)) W ∧ ∀ id b d, (Hg (glBlks P laid ts us)).base ≤ id → μ id = some (b, d) → ((Hg (glBlks P laid ts us)).get id).live = false := by
  unfold laidMetH at hl
  rw [hp] at hl
  exact rel_laid hl
/-- a law over the package variables -/
theorem lawG {P : Program} {f : FuncId} {g : Fun} (hok : FunOk P f g) (henter : ∀ args w, (callFunc f args).run P w = .ok (.enter f args) w) {W : World} {laid : List (String × DataW Unit)} (hl : laidMetH P laid W) (hp : (laid.filter fun x => x.2.handleName?.isSome) = [])
    {args : Array Value} {as : List AV} (ha : ∀ μ, AV.relL μ as args.toList) (hg : ∀ ts us, Holds (g as (Hg (glBlks P laid ts us)) isT)) : Calls P f args W fun e W' => e = .returned (.bool true) ∧ Below W.heap.size W W' := by
  obtain ⟨ts, us, μ, hR, hb⟩ := rel_laidH hl hp
  exact law hok henter (hg ts us).1 hb hR (ha μ)
/-- what is told of a struct argument, whatever the heap -/
theorem agg_shapes {P : Program} {w : World} {r : Reach} {base : Nat} {t : TypeId} {v : Value} {fs : Array Field} {ts : List TypeId} (ht : P.underlying t = some (.struct fs)) (hts : P.cellTypes P.depth t = some ts) (hc : P.cellsOf t = ts.length) (h : Value.okWide P w r base t v) : ∃ l, Shapes P ts l ∧ ∀ μ, AV.rel μ (.agg l) v := by
  obtain ⟨l, hs, q⟩ := agg_shape (μ := noMu) ht hts hc h
  exact ⟨l, hs, fun μ => AV.rel_mono (fun _ _ h => by cases h) _ v q⟩
end Go.Am
