/- What code comes to over an abstract heap, and that this is sound: part 7. No condition. -/
import Derived.Test.YtcohflkjinpcpaaGreatDoorAmL6
import Derived.ProofKit
import Derived.WideShapes
import Derived.OpenShut
import Derived.LaidLaws
import Derived.Lib.MakeNoZero
set_option linter.all false
/- A table of types, checked against the program's own. -/
namespace Go.Am
open Go

def zrel : AV → Value → Bool
  | .bool a, .bool b => a == b
  | .int k n, .int k' m => decide (k = k') && n == m
  | .str s, .string b => b.data.toList.isEmpty && s.len == 0 && s.val == 0
  | .nilp, .pointer none => true
  | .nils, .slice none 0 0 => true
  | .nilm, .map none => true
  | .nilf, .nilFunc => true
  | .nili, .nilIface => true
  | .junk, _ => true
  | _, _ => false
def zrels : List AV → List Value → Bool
  | [], [] => true
  | a :: as, v :: vs => zrel a v && zrels as vs
  | _, _ => false
theorem zrel_ok {μ : Mu} {a : AV} {v : Value} (h : zrel a v = true) : a.rel μ v := by
  unfold zrel at h
  split at h <;> simp only [AV.rel, Bool.and_eq_true, beq_iff_eq, decide_eq_true_eq, Bool.false_eq_true] at h ⊢
  · rw [h]
  · rw [h.1, h.2]
  · rename_i s b
    refine ⟨b, rfl, ?_⟩
    obtain ⟨⟨h1, h2⟩, h3⟩ := h
    rw [List.isEmpty_iff] at h1
    rw [h1]
    cases s; simp only at h2 h3; subst h2 h3; rfl
theorem zrels_ok {μ : Mu} : ∀ {as : List AV} {vs : List Value}, zrels as vs = true → AV.relL μ as vs
  | [], [], _ => AV.relL_nil.2 rfl
  | a :: as, v :: vs, h => by
    simp only [zrels, Bool.and_eq_true] at h
    exact AV.relL_cons.2 ⟨v, vs, rfl, zrel_ok h.1, zrels_ok h.2⟩
  | [], _ :: _, h => by cases h
  | _ :: _, [], h => by cases h

def kdB : Kd → TypeDesc → Bool
  | .bool, .bool => true
  | .int k, .int k' => decide (k = k')
  | .str, .string => true
  | .unsafe_, .unsafePointer => true
  | .ptr e, .pointer e' => Nat.beq e e'
  | .slice e, .slice e' => Nat.beq e e'
  | .arr n e, .array n' e' => Nat.beq n n' && Nat.beq e e'
  | .struct fs, .struct fields => decide (fs = fields.toList.map (fun f => (f.offset, f.type)))
  | .map k e, .map k' e' => Nat.beq k k' && Nat.beq e e'
  | .func, .func _ _ _ => true
  | .iface, .interface _ => true
  | _, _ => false
theorem kdB_ok {k : Kd} {d : TypeDesc} (h : kdB k d = true) : KdRel k d := by
  unfold kdB at h
  split at h <;> simp only [Bool.and_eq_true, Nat.beq_eq, decide_eq_true_eq, Bool.false_eq_true] at h
  · rfl
  · rw [h]; rfl
  · rfl
  · rfl
  · rw [h]; rfl
  · rw [h]; rfl
  · rw [h.1, h.2]; rfl
  · exact ⟨_, rfl, h⟩
  · rw [h.1, h.2]; rfl
  · exact ⟨_, _, _, rfl⟩
  · exact ⟨_, rfl⟩

def aggB : Value → Bool
  | .agg _ => true
  | _ => false
def chkInfo (ti : TI) (i : TypeInfo) : Bool :=
  i.size == ti.size && i.bytes == ti.bytes && (!ti.kd.simple || i.comparable) && (match i.zero with
    | some z => zrels ti.zero z.cells.toList && (ti.kd.agg == aggB z)
    | none => false)
def chkEq (P : Program) (t : Nat) (d : TypeDesc) : Bool :=
  !(P.eqGuardType P.depth t) && !(P.stoodInHeld t) && (match d with
    | .struct fs => fs.toList.all fun f => f.name != "_"
    | _ => true)
def chkTI (P : Program) (t : Nat) (ti : TI) : Bool :=
  match P.info? t, P.underlying t with
  | some i, some d => chkInfo ti i && kdB ti.kd d && (!ti.eqp || chkEq P t d)
  | _, _ => false
theorem chkTI_ok {P : Program} {t : Nat} {ti : TI} (h : chkTI P t ti = true) : TIRel P t ti := by
  unfold chkTI at h
  split at h
  · rename_i i d hi hd
    simp only [Bool.and_eq_true] at h
    obtain ⟨⟨h1, h2⟩, h3⟩ := h
    unfold chkInfo at h1
    simp only [Bool.and_eq_true, beq_iff_eq] at h1
    obtain ⟨⟨⟨s1, s2⟩, s4⟩, s3⟩ := h1
    split at s3
    · rename_i z hz
      simp only [Bool.and_eq_true, beq_iff_eq] at s3
      refine ⟨⟨i, z, hi, s1, s2, hz, zrels_ok s3.1, fun ha => ?_⟩, ⟨d, hd, kdB_ok h2⟩, fun ha i' z' hi' hz' => ?_, fun hs => ⟨i, hi, by rw [hs] at s4; simpa using s4⟩, fun he => ?_⟩
      · have q := s3.2.symm; rw [ha] at q
        cases z <;> simp only [aggB, Bool.false_eq_true] at q
        exact ⟨_, rfl⟩
      · rw [hi] at hi'; injection hi' with hi'; subst hi'
        rw [hz] at hz'; injection hz' with hz'; subst hz'
        have q := s3.2.symm; rw [ha] at q
        cases z <;> first | rfl | (simp only [aggB, Bool.true_eq_false] at q)
      · rw [he] at h3
        simp only [Bool.not_true, Bool.false_or] at h3
        unfold chkEq at h3
        simp only [Bool.and_eq_true, Bool.not_eq_true'] at h3
        refine ⟨h3.1.1, h3.1.2, fun fs hfs f hf => ?_⟩
        rw [hd] at hfs; injection hfs with hfs; subst hfs
        have := h3.2
        simp only [List.all_eq_true, bne_iff_ne, ne_eq] at this
        exact this f (by simpa using hf)
    · cases s3
  · cases h
/-- from row k on -/
def chkL (P : Program) : Nat → List TI → Bool
  | _, [] => true
  | k, ti :: r => (!ti.kd.known || chkTI P k ti) && chkL P (k + 1) r
theorem chkL_ok {P : Program} : ∀ (L : List TI) (k t : Nat), chkL P k L = true → (lget ⟨.other, 0, 0, [], false⟩ L t).kd.known = true → TIRel P (k + t) (lget ⟨.other, 0, 0, [], false⟩ L t)
  | [], k, t, _, h => by rw [lget_eq] at h; simp [Kd.known] at h
  | ti :: r, k, 0, h, hk => by
    simp only [chkL, Bool.and_eq_true, Bool.or_eq_true, Bool.not_eq_true'] at h
    rcases h.1 with q | q
    · have : ti.kd.known = true := hk
      rw [this] at q; cases q
    · exact chkTI_ok q
  | ti :: r, k, t + 1, h, hk => by
    simp only [chkL, Bool.and_eq_true] at h
    have := chkL_ok r (k + 1) t h.2 hk
    rwa [show k + 1 + t = k + (t + 1) from by omega] at this
noncomputable def tyOf2 (LL : List (List TI)) : Ty := fun t => lget ⟨.other, 0, 0, [], false⟩ (lget [] LL (Nat.div t 32)) (Nat.mod t 32)
/-- rows from row k on -/
def ChOk (P : Program) (k : Nat) (LL : List (List TI)) : Prop := ∀ (i : Nat) (c : List TI), LL[i]? = some c → chkL P (32 * (k + i)) c = true
theorem ch_nil {P : Program} {k : Nat} : ChOk P k [] := fun i c h => by cases h
theorem ch_cons {P : Program} {k : Nat} {c : List TI} {LL : List (List TI)} (h : chkL P (Nat.mul 32 k) c = true) (r : ChOk P (k + 1) LL) : ChOk P k (c :: LL) := fun i d hd => by
  cases i with
  | zero => injection hd with hd; subst hd; exact h
  | succ i =>
    have := r i d hd
    rwa [show k + 1 + i = k + (i + 1) from by omega] at this
theorem tyOk_of2 {P : Program} {LL : List (List TI)} (h : ChOk P 0 LL) : TyOk P (tyOf2 LL) := fun t ht => by
  have e : tyOf2 LL t = lget ⟨.other, 0, 0, [], false⟩ (lget [] LL (t / 32)) (t % 32) := rfl
  rw [e] at ht ⊢
  cases hc : LL[t / 32]? with
  | none =>
    exfalso
    have : lget [] LL (t / 32) = [] := by rw [lget_eq, List.getD_eq_getElem?_getD, hc]; rfl
    rw [this, lget_eq] at ht
    simp [Kd.known] at ht
  | some c =>
    have hl : lget [] LL (t / 32) = c := by rw [lget_eq, List.getD_eq_getElem?_getD, hc]; rfl
    rw [hl] at ht ⊢
    have := chkL_ok c _ (t % 32) (h _ c hc) ht
    rwa [show 32 * (0 + t / 32) + t % 32 = t from by omega] at this
end Go.Am

/- A table of functions. -/
namespace Go.Am
open Go

def fls : Fun := fun _ _ _ => False
noncomputable def tab : List (Nat × Fun) → Nat → Fun
  | [], _ => fls
  | p :: r, f => Bool.rec (motive := fun _ => Fun) (tab r f) p.2 (Nat.beq f p.1)
def noCode : Code → Ks → List AV → List Dfr → H → Prop := fun _ _ _ _ _ => False
noncomputable def gam (J : Joins) (l : List (Nat × Fun)) : Gam := ⟨J, tab l, fun _ => fls, fun _ => fls, noCode⟩
/-- the same, with functions that are ranged over, and the code of rounds -/
noncomputable def gamI (J : Joins) (l li : List (Nat × Fun)) (cd : Code → Ks → List AV → List Dfr → H → Prop) : Gam := ⟨J, tab l, tab li, fun _ => fls, cd⟩
def TabOk (ok : Nat → Fun → Prop) (l : List (Nat × Fun)) : Prop := ∀ f, ok f (tab l f)
theorem tab_nil {ok : Nat → Fun → Prop} (h : ∀ f, ok f fls) : TabOk ok [] := h
theorem tab_cons {ok : Nat → Fun → Prop} {f : Nat} {g : Fun} {l : List (Nat × Fun)} (h : ok f g) (hl : TabOk ok l) : TabOk ok ((f, g) :: l) := fun f' => by
  show ok f' (Bool.rec (motive := fun _ => Fun) (tab l f') g (Nat.beq f' f))
  cases e : Nat.beq f' f with
  | true => rw [Nat.beq_eq] at e; subst e; exact h
  | false => exact hl f'
theorem fls_fun {P : Program} (f : Nat) : FunOk P f fls := fun _ _ _ e => e.elim
theorem fls_it {P : Program} (f : Nat) : ItOk P f fls := fun _ _ _ e => e.elim
theorem fls_dfn {P : Program} (f : Nat) : DFunOk P f fls := fun _ _ _ e => e.elim
theorem noCode_ok {P : Program} : CodeOk P noCode := fun _ _ _ _ _ e => e.elim
theorem gam_ok {P : Program} {J : Joins} {l : List (Nat × Fun)} (h : TabOk (FunOk P) l) : GamOk P (gam J l) := ⟨h, fls_it, fls_dfn, noCode_ok⟩
theorem gamI_ok {P : Program} {J : Joins} {l li : List (Nat × Fun)} {cd : Code → Ks → List AV → List Dfr → H → Prop} (h : TabOk (FunOk P) l) (hi : TabOk (ItOk P) li) (hc : CodeOk P cd) : GamOk P (gamI J l li cd) := ⟨h, hi, fls_dfn, hc⟩
theorem FunOk.imp {P : Program} {f : Nat} {g g' : Fun} (h : FunOk P f g) (hi : ∀ as hh k, g' as hh k → g as hh k) : FunOk P f g' := fun as hh Q e μ w args hR ha => h as hh Q (hi _ _ _ e) μ w args hR ha
theorem ItOk.imp {P : Program} {f : Nat} {g g' : Fun} (h : ItOk P f g) (hi : ∀ as hh k, g' as hh k → g as hh k) : ItOk P f g' := fun as hh Q e μ w args hR ha => h as hh Q (hi _ _ _ e) μ w args hR ha
theorem DFunOk.imp {P : Program} {f : Nat} {g g' : Fun} (h : DFunOk P f g) (hi : ∀ as hh k, g' as hh k → g as hh k) : DFunOk P f g' := fun as hh Q e μ w args hR ha => h as hh Q (hi _ _ _ e) μ w args hR ha
/-- internal/abi.NoEscape gives back what it was given -/
def noEsc : Fun := fun as h k => match as with
  | [x] => k x h
  | _ => False
theorem noEscape_ok {P : Program} {f : FuncId} {fn : Func} (hf : P.funcs[f]? = some fn) (hn : (fn.name == "runtime.NumGoroutine") = false) (hb : fn.body.isNone = true) (h1 : Extern.findNext fn = none) (h2 : Extern.find fn = some Extern.AbiNoEscape.same) : FunOk P f noEsc := by
  intro as h Q e μ w args hR ha
  left
  unfold noEsc at e
  split at e
  · rename_i x
    obtain ⟨v, _, hv, hx, hn'⟩ := AV.relL_cons.1 ha
    rw [AV.relL_nil] at hn'; subst hn'
    have : args = #[v] := Array.toList_inj.1 hv
    subst this
    refine ⟨v, w, μ, x, h, ?_, hx, Post.refl hR, e⟩
    have h3 : (Extern.AbiNoEscape.same #[v]).run P w = .ok v w := rfl
    rw [beq_eq_false_iff_ne] at hn
    rw [Option.isNone_iff_eq_none] at hb
    simp [callFunc, hf, hn, hb, h1, h2, h3]
  · exact e.elim
/-- maps.clone -/
noncomputable def cloneF : Fun := fun as h k => match as with
  | [.iface t (.map id)] => asMap (h.get id) (fun es clock => pushK (.amap es clock) h fun n h' => k (.iface t (.map n)) h') fun es => pushK (.smap es) h fun n h' => k (.iface t (.map n)) h'
  | _ => False
where
  asMap (b : Blk) (k : List (AV × AV × Nat) → Nat → Prop) (k2 : List (AV × AV) → Prop) : Prop :=
    match b with
    | .amap es clock => k es clock
    | .smap es => k2 es
    | _ => False
theorem cloneF_ok {P : Program} {f : FuncId} {fn : Func} (hf : P.funcs[f]? = some fn) (hn : (fn.name == "runtime.NumGoroutine") = false) (hb : fn.body.isNone = true) (h1 : Extern.findNext fn = none) (h2 : Extern.find fn = some Extern.MapsClone.clone) : FunOk P f cloneF := by
  intro as h Q e μ w args hR ha
  left
  unfold cloneF at e
  split at e
  · rename_i t id
    unfold cloneF.asMap at e
    split at e
    · rename_i es clock hg
      rw [pushK_iff] at e
      obtain ⟨n, h', hp, e⟩ := e
      obtain ⟨v, _, hv, hx, hn'⟩ := AV.relL_cons.1 ha
      rw [AV.relL_nil] at hn'; subst hn'
      have : args = #[v] := Array.toList_inj.1 hv
      subst this
      obtain ⟨v', w', μ', q1, q2, q3⟩ := clone_ok (P := P) hR (a := .iface t (.map id)) (r := .iface t (.map n)) (h' := h') (by simp only [aClone, hg, hp]) hx
      refine ⟨v', w', μ', _, h', ?_, q2, q3, e⟩
      rw [beq_eq_false_iff_ne] at hn
      rw [Option.isNone_iff_eq_none] at hb
      simp [callFunc, hf, hn, hb, h1, h2, q1]
    · rename_i es hg
      rw [pushK_iff] at e
      obtain ⟨n, h', hp, e⟩ := e
      obtain ⟨v, _, hv, hx, hn'⟩ := AV.relL_cons.1 ha
      rw [AV.relL_nil] at hn'; subst hn'
      have : args = #[v] := Array.toList_inj.1 hv
      subst this
      obtain ⟨v', w', μ', q1, q2, q3⟩ := clone_ok (P := P) hR (a := .iface t (.map id)) (r := .iface t (.map n)) (h' := h') (by simp only [aClone, hg, hp]) hx
      refine ⟨v', w', μ', _, h', ?_, q2, q3, e⟩
      rw [beq_eq_false_iff_ne] at hn
      rw [Option.isNone_iff_eq_none] at hb
      simp [callFunc, hf, hn, hb, h1, h2, q1]
    · exact e.elim
  · exact e.elim
end Go.Am

/- From the functional semantics to a row: whatever the input, the law returns true, and the input reads as it did. -/
namespace Go.Am
open Go Go.ChangeShapes Go.RowKit

theorem law_calls {P : Program} {f : FuncId} {g : Fun} (hok : FunOk P f g) (henter : ∀ args w, (callFunc f args).run P w = .ok (.enter f args) w) {as : List AV} {h : H} {Q : AV → H → Prop} (hg : g as h Q)
    {μ : Mu} {W : World} {args : Array Value} (hR : Rel μ h W) (ha : AV.relL μ as args.toList) : CallsTo P μ h W f args Q := by
  rcases hok as h Q hg μ W args hR ha with ⟨v, w', μ', r, h', q1, _⟩ | ⟨_, q⟩
  · rw [henter] at q1; cases q1
  · exact q
/-- the empty heap -/
def H0 : H := ⟨.lf, 0, 0⟩
theorem rel0 (W : World) : Rel noMu H0 W :=
  ⟨⟨Nat.le_refl _⟩, fun _ _ _ h => (by cases h), fun _ _ _ _ _ h => (by cases h), fun _ _ _ h => (by cases h), fun _ _ _ _ _ _ h => (by cases h), fun _ _ _ h => absurd h (Nat.not_lt_zero _)⟩
theorem below_of_post {μ μ' : Mu} {h h' : H} {W W' : World} (hp : Post μ h W μ' h' W') (hb : ∀ id b d, h.base ≤ id → μ id = some (b, d) → (h.get id).live = false) : Below W.heap.size W W' :=
  ⟨hp.frame.os, hp.frame.tape, hp.frame.output, hp.frame.size, fun k hk => hp.frame.block k hk fun id d h1 h2 => hb id k d h1 h2⟩
def isT (r : AV) (_ : H) : Prop := r = .bool true
/-- a law over a heap of which nothing may be written -/
theorem law {P : Program} {f : FuncId} {g : Fun} (hok : FunOk P f g) (henter : ∀ args w, (callFunc f args).run P w = .ok (.enter f args) w) {as : List AV} {h : H} (hg : g as h isT) {μ : Mu} (hb : ∀ id b d, h.base ≤ id → μ id = some (b, d) → (h.get id).live = false)
    {W : World} {args : Array Value} (hR : Rel μ h W) (ha : AV.relL μ as args.toList) : Calls P f args W fun e W' => e = .returned (.bool true) ∧ Below W.heap.size W W' :=
  Calls.mono (law_calls hok henter hg hR ha) fun e W' he => by
    obtain ⟨v, μ', r, h', rfl, hv, hp, hr⟩ := he
    have hr : r = .bool true := hr
    subst hr
    simp only [AV.rel] at hv; subst hv
    exact ⟨rfl, below_of_post hp hb⟩
section
variable {H : Type} {enc : TypeId × Value → H} {P : Program}
theorem trodAll_below (hl : laidOutB P = true) {W W' : World} (hb : Below W.heap.size W W') : ∀ {ts : List TypeId} {vs : List Value} {ds : List (DataW H)} {ps : List MemPlace}, (∀ t ∈ ts, P.readableRec t = true ∧ t < P.types.size) →
    DataW.TrodAll enc P W 0 (fun _ => true) true ts vs ds ps → (∀ x ∈ ps, x.block < W.heap.size) → DataW.TrodAll enc P W' 0 (fun b => decide (b < W.heap.size)) true ts vs ds ps
  | [], _, _, _, _, h, _ => by obtain ⟨rfl, rfl, rfl⟩ := trodAll_nil h; rfl
  | t :: ts, _, _, _, ht, h, hlt => by
    obtain ⟨v, vs1, d, ds1, a, b, rfl, rfl, rfl, h1, h2⟩ := trodAll_cons h
    exact ⟨a, b, Below.trod hl (ht t (by simp)).1 (ht t (by simp)).2 h1 hb (fun x hx => hlt x (by simp [hx])), trodAll_below hl hb (fun t h => ht t (by simp [h])) h2 (fun x hx => hlt x (by simp [hx])), rfl⟩
theorem post_of_below {f : Func} {s : ChangeSpec} {W W' : World} {args : Array Value} {v : Value} {ds gs : List (DataW H)} {before : List MemPlace} {fresh handsOn : Bool} (hv : s.vars = []) (hl : laidOutB P = true) (hpar : ∀ t ∈ f.params.toList, P.readableRec t = true ∧ t < P.types.size)
    (hW : DataW.Whole enc P f.params.toList s.vars false W args.toList ds gs before) (hb : Below W.heap.size W W') (ha : (s.fn H (ds ++ gs)).args = ds) (hvs : (s.fn H (ds ++ gs)).vars = [])
    (hres : ∀ (b : Nat) (sp : Nat → Bool) (hd : Bool), DataW.TrodAll enc P W' b sp hd f.resultTypes.toList (v.resultList f.resultTypes.size) (s.fn H (ds ++ gs)).results []) : s.post enc P f false fresh handsOn false W args v W' := by
  have hW' := hW
  have hlt := hW.lt
  obtain ⟨p, q, hA, hV, rfl, hz, hn⟩ := hW
  rw [hv] at hV
  obtain ⟨rfl, rfl⟩ := trodVars_none hV
  refine ⟨ds, [], p ++ [], [], p, [], hW', hres _ _ _, ?_, ?_, hb.frame _, fun h => by cases h⟩
  · rw [ha]; exact trodAll_below hl hb hpar hA (fun x hx => hlt x (by simp [hx]))
  · rw [hv, hvs]; rfl
theorem bool_res {W' : World} {f : Func} {t : TypeId} (hr : f.resultTypes = #[t]) (ht : P.underlying t = some .bool) (b : Bool) (k : Nat) (sp : Nat → Bool) (hd : Bool) :
    DataW.TrodAll enc P W' k sp hd f.resultTypes.toList ((Value.bool b).resultList f.resultTypes.size) [.lit (.bool b)] [] := by
  rw [hr]
  exact trodAll_mk1 ⟨1, by simp [DataW.trod, Value.cells, ht]⟩
end
end Go.Am

/- For functions that are printed in continuation style: taking the arguments, and a few short forms. -/
namespace Go.Am
open Go
noncomputable def arg (as : List AV) (k : AV → List AV → Prop) : Prop := List.rec (motive := fun _ => Prop) False (fun a t _ => k a t) as
noncomputable def noArg (as : List AV) (p : Prop) : Prop := List.rec (motive := fun _ => Prop) p (fun _ _ _ => False) as
theorem arg_imp {as : List AV} {k : AV → List AV → Prop} (e : arg as k) : ∃ a t, as = a :: t ∧ k a t := by
  cases as with
  | nil => exact e.elim
  | cons a t => exact ⟨a, t, rfl, e⟩
theorem noArg_imp {as : List AV} {p : Prop} (e : noArg as p) : as = [] ∧ p := by
  cases as with
  | nil => exact ⟨rfl, e⟩
  | cons a t => exact e.elim
noncomputable def lenK (v : AV) (k : Nat → Prop) : Prop := asSl v (k 0) fun _ _ len _ _ _ => k len
noncomputable def delK (o : Option (Option (Nat × Blk))) (h : H) (k : H → Prop) : Prop := op' o fun p => match p with
  | some q => putK q.1 q.2 h k
  | none => k h
end Go.Am

/- What a call made and nobody names any more may be given up: summaries whose heap does not hang on what was thrown away. -/
namespace Go.Am
open Go
theorem Shown.resort {es es2 : List (AV × AV)} {es' : List (AV × AV × Nat)} {clock : Nat} (s : Shown es es' clock) (p : es.Perm es2) : Shown es2 es' clock :=
  ⟨s.perm.trans p, (p.map (·.1)).nodup_iff.1 s.keys, s.stamps, s.low⟩
/-- as h1, but that some blocks from place n on are given up, and some maps told in another order -/
structure Deader (n : Nat) (h1 h2 : H) : Prop where
  next : h2.next = h1.next
  base : h2.base = h1.base
  low : ∀ id, id < n → h2.get id = h1.get id
  high : ∀ id, n ≤ id → h2.get id = h1.get id ∨ h2.get id = .dead ∨ ∃ es es2, h1.get id = .smap es ∧ h2.get id = .smap es2 ∧ es.Perm es2
theorem Deader.refl (n : Nat) (h : H) : Deader n h h := ⟨rfl, rfl, fun _ _ => rfl, fun _ _ => .inl rfl⟩
theorem Deader.any {n : Nat} {h1 h2 : H} (d : Deader n h1 h2) (id : Nat) : h2.get id = h1.get id ∨ h2.get id = .dead ∨ ∃ es es2, h1.get id = .smap es ∧ h2.get id = .smap es2 ∧ es.Perm es2 := by
  rcases Nat.lt_or_ge id n with h | h
  · exact .inl (d.low id h)
  · exact d.high id h
theorem Deader.live {n : Nat} {h1 h2 : H} (d : Deader n h1 h2) {id : Nat} (h : (h2.get id).live = true) : (h1.get id).live = true := by
  rcases d.any id with e | e | ⟨es, es2, e, _⟩
  · rw [← e]; exact h
  · rw [e] at h; cases h
  · rw [e]; rfl
theorem Post.deader {μ μ' : Mu} {h h1 h2 : H} {w w' : World} (hR : Rel μ h w) (p : Post μ h w μ' h1 w') (d : Deader h.next h1 h2) : Post μ h w μ' h2 w' := by
  refine ⟨p.ext, ⟨?_, fun id b e hm => ?_, fun i j b e f hi hj li lj hbj => p.rel.inj i j b e f hi hj (d.live li) (d.live lj) (by have := d.base; omega), fun id b e hm => ?_, p.rel.cnt, p.rel.glb.step d.base (fun id hi => d.low id (by have := hR.wf.low; have := p.grows.base; omega)) fun _ _ => rfl⟩, p.frame, ⟨?_, ?_, fun id hi hm => ?_, fun id hi => ?_, fun id hi hl => p.grows.dead id hi (d.live hl)⟩, fun id b e hi hm hb hl => p.fresh id b e hi hm hb (d.live hl)⟩
  · exact ⟨by rw [d.base, d.next]; exact p.rel.wf.low⟩
  · rw [d.next]; exact p.rel.dom id b e hm
  · rcases d.any id with q | q | ⟨es, es2, q1, q2, q3⟩
    · rw [q, d.base]; exact p.rel.blk id b e hm
    · rw [q]; trivial
    · have hb := p.rel.blk id b e hm
      rw [q1] at hb
      obtain ⟨h0, es', clock, ces, r1, r2, r3⟩ := hb
      rw [q2]; exact ⟨h0, es', clock, ces, r1, r2, r3.resort q3⟩
  · rw [d.next]; exact p.grows.next
  · rw [d.base]; exact p.grows.base
  · rw [d.low id hi]; exact p.grows.keep id hi hm
  · rw [d.low id (Nat.lt_of_lt_of_le hi hR.wf.low)]; exact p.grows.low id hi
theorem FunOk.deader {P : Program} {f : FuncId} {g g' : Fun} (hg : FunOk P f g) (hi : ∀ as h k, h.Wf → g' as h k → g as h fun r h1 => ∃ h2, Deader h.next h1 h2 ∧ k r h2) : FunOk P f g' := by
  intro as h Q e μ w args hR ha
  rcases hg as h _ (hi as h Q hR.wf e) μ w args hR ha with ⟨v, w', μ', r, h1, q1, q2, q3, h2, q4, q5⟩ | ⟨q1, q2⟩
  · exact .inl ⟨v, w', μ', r, h2, q1, q2, q3.deader hR q4, q5⟩
  · exact .inr ⟨q1, Calls.mono q2 fun e w' ⟨v, μ', r, h1, p1, p2, p3, h2, p4, p5⟩ => ⟨v, μ', r, h2, p1, p2, p3.deader hR p4, p5⟩⟩
/-- what follows may be asked less -/
theorem FunOk.up {P : Program} {f : FuncId} {g g' : Fun} (hg : FunOk P f g) (hi : ∀ as h k, g' as h k → ∃ K, g as h K ∧ ∀ r h', K r h' → k r h') : FunOk P f g' := by
  intro as h Q e μ w args hR ha
  obtain ⟨K, e, hK⟩ := hi as h Q e
  rcases hg as h K e μ w args hR ha with ⟨v, w', μ', r, h1, q1, q2, q3, q4⟩ | ⟨q1, q2⟩
  · exact .inl ⟨v, w', μ', r, h1, q1, q2, q3, hK _ _ q4⟩
  · exact .inr ⟨q1, Calls.mono q2 fun e w' ⟨v, μ', r, h1, p1, p2, p3, p4⟩ => ⟨v, μ', r, h1, p1, p2, p3, hK _ _ p4⟩⟩
end Go.Am

/- A range over a map, step by step. -/
namespace Go.Am
open Go
theorem hput_get {h h' : H} {i : Nat} {b : Blk} (e : h.put i b = some h') : i < h.next ∧ h.base ≤ i ∧ h'.next = h.next ∧ h'.base = h.base ∧ ∀ id, h'.get id = if id = i then b else h.get id := by
  rw [H.put_eq] at e
  split at e
  · rename_i hlt
    injection e with e; subst e
    refine ⟨hlt.1, hlt.2, rfl, rfl, fun id => ?_⟩
    rw [H.get_eq, H.get_eq]
    simp only [Tr.get_set]
    split <;> split <;> first | rfl | omega | simp_all
  · cases e
theorem put_ok {h : H} {i : Nat} (b : Blk) (h1 : i < h.next) (h2 : h.base ≤ i) : ∃ h', h.put i b = some h' := ⟨_, by rw [H.put_eq, if_pos ⟨h1, h2⟩]⟩
theorem push_ok (h : H) (b : Blk) : ∃ h', h.push b = some (h.next, h') := by unfold H.push; exact ⟨_, rfl⟩
/-- an iterator over map m, that stands as es (told at first: es0), has gone over 'seen' -/
structure Iter (m r : Nat) (es0 : List (AV × AV)) (es : List (AV × AV × Nat)) (clock : Nat) (seen : List Nat) (h : H) : Prop where
  mp : h.get m = .amap es clock
  it : h.get r = .miter (some m) clock seen clock
  shown : Shown es0 es clock
theorem Iter.ne {m r : Nat} {es0 : List (AV × AV)} {es : List (AV × AV × Nat)} {clock : Nat} {seen : List Nat} {h : H} (i : Iter m r es0 es clock seen h) : m ≠ r := by
  intro e; subst e; have := i.it; rw [i.mp] at this; cases this
/-- the next round, or the end; at the end any heap will do that reads alike -/
theorem Iter.nextA {m r : Nat} {es0 : List (AV × AV)} {es : List (AV × AV × Nat)} {clock : Nat} {seen : List Nat} {h : H} (i : Iter m r es0 es clock seen h) {k : AV → H → Prop}
    (hgo : ∀ e ∈ es, e.2.2 ∉ seen → ∃ h', h.put r (.miter (some m) clock (seen ++ [e.2.2]) clock) = some h' ∧ k (.tuple [.bool true, e.1, e.2.1]) h')
    (hend : (∀ e ∈ es, e.2.2 ∈ seen) → ∃ h1 h2 h3, h.put m (.smap es0) = some h1 ∧ h1.put r .dead = some h2 ∧ Alike h2 h3 ∧ k (.tuple [.bool false]) h3) : aNext (.ptr r 0) h k := by
  unfold aNext
  simp only [i.it, i.mp]
  have hst : (!seen.isEmpty && !es.isEmpty && es.all (fun e => Nat.ble clock e.2.2)) = false := by
    cases es with
    | nil => simp
    | cons e l =>
      have := i.shown.low e List.mem_cons_self
      have hb : Nat.ble clock e.2.2 = false := by
        cases hc : Nat.ble clock e.2.2 with
        | false => rfl
        | true => rw [ble_iff] at hc; omega
      simp [hb]
  rw [hst]
  simp only
  intro c hc
  unfold aCands at hc
  have hold : ∀ e ∈ es, Nat.blt e.2.2 clock = true := fun e he => by rw [blt_iff]; exact i.shown.low e he
  have e1 : ((es.filter fun e => !hasN seen e.2.2).filter fun e => Nat.blt e.2.2 clock) = es.filter fun e => !hasN seen e.2.2 := by
    rw [List.filter_eq_self]; intro e he; exact hold e (List.mem_filter.1 he).1
  have e2 : ((es.filter fun e => !hasN seen e.2.2).filter fun e => !Nat.blt e.2.2 clock) = [] := by
    rw [List.filter_eq_nil_iff]; intro e he; simp [hold e (List.mem_filter.1 he).1]
  simp only [e1, e2, List.append_nil] at hc
  rcases List.mem_append.1 hc with hc | hc
  · split at hc
    · rename_i hnil
      simp at hc; subst hc
      refine .inr ?_
      obtain ⟨h1, h2, h3, p1, p2, p3, p4⟩ := hend (fun e he => by
        have := (List.filter_eq_nil_iff.1 hnil) e he
        simpa [hasN_eq] using this)
      exact ⟨es0, h1, h2, h3, i.shown, p1, p2, p3, p4⟩
    · cases hc
  · obtain ⟨e, he, rfl⟩ := List.mem_map.1 hc
    obtain ⟨he, hs⟩ := List.mem_filter.1 he
    obtain ⟨x, v, n⟩ := e
    obtain ⟨h', p1, p2⟩ := hgo (x, v, n) he (by simpa [hasN_eq] using hs)
    simp only [lapp_eq, p1]
    exact p2
theorem Iter.next {m r : Nat} {es0 : List (AV × AV)} {es : List (AV × AV × Nat)} {clock : Nat} {seen : List Nat} {h : H} (i : Iter m r es0 es clock seen h) {k : AV → H → Prop}
    (hgo : ∀ e ∈ es, e.2.2 ∉ seen → ∃ h', h.put r (.miter (some m) clock (seen ++ [e.2.2]) clock) = some h' ∧ k (.tuple [.bool true, e.1, e.2.1]) h')
    (hend : (∀ e ∈ es, e.2.2 ∈ seen) → ∃ h1 h2, h.put m (.smap es0) = some h1 ∧ h1.put r .dead = some h2 ∧ k (.tuple [.bool false]) h2) : aNext (.ptr r 0) h k :=
  i.nextA hgo fun ha => let ⟨h1, h2, p1, p2, p3⟩ := hend ha; ⟨h1, h2, h2, p1, p2, .refl _, p3⟩
/-- what 'next' gave, is what is read -/
theorem find_stamp {es : List (AV × AV × Nat)} (hs : (es.map (·.2.2)).Nodup) {e : AV × AV × Nat} (he : e ∈ es) : es.find? (fun x => Nat.beq x.2.2 e.2.2) = some e := by
  induction es with
  | nil => cases he
  | cons a l ih =>
    rw [List.map_cons, List.nodup_cons] at hs
    rw [List.find?_cons]
    rcases List.mem_cons.1 he with rfl | he
    · have : Nat.beq e.2.2 e.2.2 = true := by rw [Nat.beq_eq]
      rw [this]
    · have : Nat.beq a.2.2 e.2.2 = false := by
        cases hb : Nat.beq a.2.2 e.2.2 with
        | false => rfl
        | true => rw [Nat.beq_eq] at hb; exact absurd (List.mem_map.2 ⟨e, he, hb.symm⟩) hs.1
      rw [this]; exact ih hs.2 he
theorem Iter.entry {m r : Nat} {es0 : List (AV × AV)} {es : List (AV × AV × Nat)} {clock : Nat} {seen : List Nat} {e : AV × AV × Nat} {h : H} (i : Iter m r es0 es clock (seen ++ [e.2.2]) h) (he : e ∈ es) : aEntry (.ptr r 0) h = some (.tuple [e.1, e.2.1]) := by
  unfold aEntry
  have : Nat.beq clock clock = true := by rw [Nat.beq_eq]
  simp only [i.it, i.mp, this, List.getLast?_append, List.getLast?_singleton, Option.some_or, find_stamp i.shown.stamps he]
theorem Iter.step {m r : Nat} {es0 : List (AV × AV)} {es : List (AV × AV × Nat)} {clock : Nat} {seen seen' : List Nat} {h h' : H} (i : Iter m r es0 es clock seen h) (hp : h.put r (.miter (some m) clock seen' clock) = some h') : Iter m r es0 es clock seen' h' := by
  obtain ⟨_, _, _, _, g⟩ := hput_get hp
  exact ⟨by rw [g, if_neg i.ne]; exact i.mp, by rw [g, if_pos rfl], i.shown⟩
/-- what is still to come -/
def rest (seen : List Nat) (es : List (AV × AV × Nat)) : List (AV × AV × Nat) := es.filter fun e => !seen.contains e.2.2
theorem rest_step {es : List (AV × AV × Nat)} (hs : (es.map (·.2.2)).Nodup) {e : AV × AV × Nat} (he : e ∈ es) {seen : List Nat} (hn : e.2.2 ∉ seen) : (rest seen es).Perm (e :: rest (seen ++ [e.2.2]) es) := by
  induction es with
  | nil => cases he
  | cons a l ih =>
    rw [List.map_cons, List.nodup_cons] at hs
    rcases List.mem_cons.1 he with rfl | he
    · have h1 : rest (seen ++ [e.2.2]) l = rest seen l := by
        unfold rest
        apply List.filter_congr
        intro x hx
        have : x.2.2 ≠ e.2.2 := fun q => hs.1 (List.mem_map.2 ⟨x, hx, q⟩)
        simp [this]
      have h2 : rest seen (e :: l) = e :: rest seen l := by unfold rest; rw [List.filter_cons]; simp [hn]
      have h3 : rest (seen ++ [e.2.2]) (e :: l) = rest (seen ++ [e.2.2]) l := by unfold rest; rw [List.filter_cons]; simp
      rw [h2, h3, h1]
    · have hne : a.2.2 ≠ e.2.2 := fun q => hs.1 (List.mem_map.2 ⟨e, he, q.symm⟩)
      have ih := ih hs.2 he
      unfold rest at ih ⊢
      rw [List.filter_cons, List.filter_cons]
      by_cases ha : a.2.2 ∈ seen
      · simp only [List.contains_eq_mem, ha, decide_true, Bool.not_true, List.mem_append, true_or]
        simpa [List.contains_eq_mem] using ih
      · have hb : a.2.2 ∉ seen ++ [e.2.2] := by simp [ha, hne]
        simp only [List.contains_eq_mem, ha, hb, decide_false, Bool.not_false, if_true]
        refine .trans (.cons a ?_) (.swap _ _ _)
        simpa [List.contains_eq_mem] using ih
theorem rest_nil {es : List (AV × AV × Nat)} {seen : List Nat} (h : ∀ e ∈ es, e.2.2 ∈ seen) : rest seen es = [] := by
  unfold rest; rw [List.filter_eq_nil_iff]; intro e he; simp [h e he]
theorem rest_all (es : List (AV × AV × Nat)) : rest [] es = es := by
  unfold rest; rw [List.filter_eq_self]; intro e he; simp
end Go.Am

namespace Go.Am
open Go
theorem wrap_i64 (n : Int) : ∃ q : Int, wrapF .i64 n = n - 18446744073709551616 * q ∧ -9223372036854775808 ≤ wrapF .i64 n ∧ wrapF .i64 n < 9223372036854775808 := by
  rw [wrapF_eq]
  simp only [IntKind.wrap, IntKind.bits, IntKind.signed, Bool.true_and]
  split
  · rename_i hc; simp at hc; exact ⟨n / 18446744073709551616 + 1, by omega, by omega, by omega⟩
  · rename_i hc; simp at hc; exact ⟨n / 18446744073709551616, by omega, by omega, by omega⟩
theorem wrap_sub2 (n a b : Int) : wrapF .i64 (Int.sub (wrapF .i64 (Int.sub n a)) b) = wrapF .i64 (Int.sub (wrapF .i64 (Int.sub n b)) a) := by
  show wrapF .i64 (wrapF .i64 (n - a) - b) = wrapF .i64 (wrapF .i64 (n - b) - a)
  obtain ⟨q1, h1, _⟩ := wrap_i64 (n - a)
  obtain ⟨q2, h2, _⟩ := wrap_i64 (n - b)
  obtain ⟨q3, h3, h4, h5⟩ := wrap_i64 (wrapF .i64 (n - a) - b)
  obtain ⟨q4, h6, h7, h8⟩ := wrap_i64 (wrapF .i64 (n - b) - a)
  omega
/-- what is left when each of a list is taken off -/
noncomputable def takeOff (n : Int) (l : List Int) : Int := l.foldl (fun n x => wrapF .i64 (Int.sub n x)) n
theorem takeOff_perm {l l' : List Int} (h : l.Perm l') (n : Int) : takeOff n l = takeOff n l' :=
  h.foldl_eq' (fun x _ y _ z => wrap_sub2 z x y) n
end Go.Am

/- Arguments: a struct is told as its cells; parameters that are read. -/
namespace Go.Am
open Go Go.ChangeShapes Go.WideShapes Go.RowKit
/-- p, hidden from what would reckon it -/
structure Holds (p : Prop) : Prop where
  out : p
theorem pars_ok {P : Program} {ts : List TypeId} (h : (ts.all fun t => P.readableRec t && Nat.blt t P.types.size) = true) : ∀ t ∈ ts, P.readableRec t = true ∧ t < P.types.size := fun t ht => by
  have := List.all_eq_true.1 h t ht
  simp only [Bool.and_eq_true, blt_iff] at this
  exact this
end Go.Am

/- Ranges over functions, as they are printed. -/
namespace Go.Am
open Go
end Go.Am

/- What is asked of the rest may be weakened: each piece in continuation style is monotone. -/
namespace Go.Am
open Go
theorem fN_mono {n : Nat} {k k' : Nat → Prop} (hk : ∀ x, k x → k' x) : fN n k → fN n k' := by rw [fN_eq, fN_eq]; exact hk _
theorem ck_mono {c : Bool} {p p' : Prop} (h1 : p → p') : ck c p → ck c p' := by rw [ck_iff, ck_iff]; exact fun h => ⟨h.1, h1 h.2⟩
theorem op_mono {α : Type} {o : Option α} {k k' : α → Prop} (hk : ∀ x, k x → k' x) : op' o k → op' o k' := by
  rw [op'_iff, op'_iff]; rintro ⟨a, b, c⟩; exact ⟨a, b, hk _ c⟩
theorem asPG_mono {v : AV} {k k' k2 k2' : Nat → Nat → Prop} (hk : ∀ x y, k x y → k' x y) (hk2 : ∀ x y, k2 x y → k2' x y) : asPG v k k2 → asPG v k' k2' := by
  rw [asPG_iff, asPG_iff]
  rintro (⟨a, b, c, d⟩ | ⟨a, b, c, d⟩)
  · exact .inl ⟨a, b, c, hk _ _ d⟩
  · exact .inr ⟨a, b, c, hk2 _ _ d⟩
theorem asRow'_mono {b : Blk} {k1 k1' : Bool → Nat → List AV → Prop} {k2 k2' : Nat → Nat → Bool → Str → Prop} (h1 : ∀ m t cs, k1 m t cs → k1' m t cs) (h2 : ∀ t f g s, k2 t f g s → k2' t f g s) : asRow' b k1 k2 → asRow' b k1' k2' := by
  rw [asRow'_iff, asRow'_iff]
  rintro (⟨a, b, c, d, q⟩ | ⟨a, b, c, d, e, q⟩)
  · exact .inl ⟨a, b, c, d, h1 _ _ _ q⟩
  · exact .inr ⟨a, b, c, d, e, h2 _ _ _ _ q⟩
theorem glK_mono {h : H} {g : Nat} {k k' : List AV → Prop} (hk : ∀ cs, k cs → k' cs) : glK h g k → glK h g k' := ck_mono (asRow'_mono (fun _ _ cs => ck_mono (hk cs)) fun _ _ _ _ h => h)
theorem faK_mono {off : Nat} {p : AV} {k k' : AV → Prop} (hk : ∀ v, k v → k' v) : faK off p k → faK off p k' := asPG_mono (fun _ _ => fN_mono fun _ => hk _) fun _ _ => fN_mono fun _ => hk _
theorem ldV_mono {p : AV} {h : H} {k k' : AV → Prop} (hk : ∀ v, k v → k' v) : ldV p h k → ldV p h k' := asPG_mono (fun _ _ => asRow'_mono (fun _ _ _ => op_mono hk) fun _ _ _ _ => ck_mono (fN_mono fun _ => hk _)) fun _ _ => glK_mono fun _ => op_mono hk
noncomputable def faP (off : Nat) (p : AV) (k : AV → Prop) : Prop := Go.Am.asPtr p fun id o => fN (Nat.add o off) fun o => k (.ptr id o)
noncomputable def ldP (p : AV) (h : H) (k : AV → Prop) : Prop := Go.Am.asPtr p fun id off => asRow' (h.get id) (fun _ _ cs => op' (lgetO cs off) k) fun _ _ _ s => ck (Nat.blt off s.len) (fN (s.get off) fun c => k (.int .u8 (Int.ofNat c)))
theorem faP_up {off : Nat} {p : AV} {k : AV → Prop} (q : faP off p k) : faK off p k := by
  unfold faP at q; rw [asPtr_iff] at q
  obtain ⟨i, o, rfl, q⟩ := q; exact q
theorem ldP_up {p : AV} {h : H} {k : AV → Prop} (q : ldP p h k) : ldV p h k := by
  unfold ldP at q; rw [asPtr_iff] at q
  obtain ⟨i, o, rfl, q⟩ := q; exact q
end Go.Am

/- The package variables, as a row lists them, in the abstract heap: block g is global g. -/
namespace Go.Am
open Go Go.ChangeShapes Go.RowKit

noncomputable def trOf : List Blk → Nat → Tr → Tr
  | [], _, t => t
  | b :: bs, i, t => trOf bs (i + 1) (Tr.set t i b)
noncomputable def Hg (gs : List Blk) : H := ⟨trOf gs 0 .lf, gs.length, gs.length⟩
theorem trOf_get : ∀ (gs : List Blk) (i : Nat) (t : Tr) (j : Nat), Tr.get (trOf gs i t) j = if i ≤ j ∧ j < i + gs.length then gs.getD (j - i) .dead else Tr.get t j
  | [], i, t, j => by
    show Tr.get t j = _
    rw [if_neg (by simp)]
  | b :: bs, i, t, j => by
    show Tr.get (trOf bs (i + 1) (Tr.set t i b)) j = _
    rw [trOf_get bs (i + 1) _ j, Tr.get_set]
    by_cases h1 : i + 1 ≤ j ∧ j < i + 1 + bs.length
    · rw [if_pos h1, if_pos (by simp; omega), show j - i = (j - (i + 1)) + 1 from by omega]; simp
    · rw [if_neg h1]
      by_cases h2 : j = i
      · subst h2; rw [if_pos rfl, if_pos (by simp)]; simp
      · rw [if_neg h2, if_neg (by simp; omega)]
theorem Hg_get (gs : List Blk) (i : Nat) : (Hg gs).get i = gs.getD i .dead := by
  rw [H.get_eq]
  show (if i < gs.length then Tr.get (trOf gs 0 .lf) i else .dead) = _
  rw [trOf_get]
  by_cases h : i < gs.length
  · rw [if_pos h, if_pos ⟨Nat.zero_le _, by omega⟩]; simp
  · rw [if_neg h]; simp [List.getElem?_eq_none (Nat.le_of_not_lt h)]
/-- what is told of one global -/
def GlOk (W : World) (g : Nat) (b : Blk) : Prop :=
  b = .dead ∨ ∃ (t : Nat) (cs : List AV) (ccs : Array Value), b = .cells false t cs ∧ W.heap[g]? = some (.cells ccs t (0, 0)) ∧ ∀ (i : Nat) (a : AV), cs[i]? = some a → ∃ v, ccs[i]? = some v ∧ AV.rel noMu a v
def rowSize (W : World) (g : Nat) : Nat :=
  match W.heap[g]? with
  | some (.cells ccs _ _) => ccs.size
  | _ => 0
def litAV : DataW Unit → AV
  | .lit (.int k n) => .int k n
  | .lit (.bool b) => .bool b
  | _ => .junk
def glAV (P : Program) (t : TypeId) (u : Nat) (d : DataW Unit) : List AV :=
  match P.underlying t, d with
  | some (.array _ e), .agg ds => match P.cellsOf e with
    | 1 => ds.map litAV
    | _ => []
  | some (.interface _), .iface _ _ => [.iface u .junk]
  | _, _ => []
theorem lit_ok {P : Program} {W : World} {base : Nat} {sp : Nat → Bool} {held : Bool} {fuel : Nat} {t : TypeId} {cs : List Value} {d : DataW Unit} {p : List MemPlace} {v : Value} (h : DataW.trod (fun _ => ()) P W base sp held fuel t cs = some (d, p)) (hc : cs = [v]) : AV.rel noMu (litAV d) v := by
  subst hc
  have key : ∀ l, d = .lit l → v = (match l with | .int k n => .int k n | .bool b => .bool b | _ => v) := by
    rintro l rfl
    cases fuel with
    | zero => simp [DataW.trod] at h
    | succ n =>
      unfold DataW.trod at h
      split at h
      all_goals first
        | (simp at h; done)
        | (split at h <;> first | (simp at h; done) | (injection h with h; injection h with h _; injection h with h; subst h; simp_all; done) | skip)
        | (injection h with h; injection h with h _; injection h with h; subst h; simp_all; done)
        | skip
      · simp only [Option.map_eq_some_iff] at h
        obtain ⟨_, _, h⟩ := h; cases h
      · simp only [Option.map_eq_some_iff, Option.bind_eq_some_iff] at h
        obtain ⟨_, _, _, _, h⟩ := h; cases h
      · split at h
        · simp only [Option.bind_eq_some_iff] at h
          obtain ⟨_, _, h⟩ := h
          split at h <;> cases h
        · cases h
  unfold litAV
  split
  · have := key _ rfl; simp only at this; rw [this]; simp [AV.rel]
  · have := key _ rfl; simp only at this; rw [this]; simp [AV.rel]
  · simp [AV.rel]
theorem iface_ok {P : Program} {W : World} {base : Nat} {sp : Nat → Bool} {fuel : Nat} {t : TypeId} {cs : List Value} {d : DataW Unit} {s : String} {p : List MemPlace} {ms : Array (String × TypeId)} (ht : P.underlying t = some (.interface ms)) (h : DataW.trod (fun _ => ()) P W base sp false fuel t cs = some (.iface s d, p)) : ∃ u v, cs = [.iface u v] := by
  cases fuel with
  | zero => simp [DataW.trod] at h
  | succ n =>
    unfold DataW.trod at h
    rw [ht] at h
    split at h <;> simp_all
theorem glAV_ok {P : Program} {W : World} {fuel : Nat} {t : TypeId} {cs : List Value} {d : DataW Unit} {p : List MemPlace} (h : DataW.trod (fun _ => ()) P W 0 (fun _ => true) false fuel t cs = some (d, p)) :
    ∃ u, ∀ (i : Nat) (a : AV), (glAV P t u d)[i]? = some a → ∃ v, cs[i]? = some v ∧ AV.rel noMu a v := by
  by_cases hi : ∃ ms s x, P.underlying t = some (.interface ms) ∧ d = .iface s x
  · obtain ⟨ms, s, x, ht, rfl⟩ := hi
    obtain ⟨u, v, rfl⟩ := iface_ok ht h
    refine ⟨u, fun i a e => ?_⟩
    unfold glAV at e; rw [ht] at e
    cases i with
    | zero =>
      simp at e; subst e
      exact ⟨_, rfl, by simp [AV.rel]⟩
    | succ i => simp at e
  · refine ⟨0, fun i a e => ?_⟩
    unfold glAV at e
    split at e
    · rename_i n e' ds ht
      split at e
      · rename_i hc
        obtain ⟨xs, m, _, hx, hl, hxn, hall⟩ := DataW.trod_array ht h
        injection hx with hx1 hx2
        injection hx1 with hx1
        subst hx1
        rw [List.getElem?_map, List.getElem?_map, Option.map_map, Option.map_eq_some_iff] at e
        obtain ⟨y, hy, rfl⟩ := e
        have hin : i < n := by rw [← hxn]; exact (List.getElem?_eq_some_iff.1 hy).1
        have hq := hall i hin
        rw [hy, hc, Nat.mul_one] at hq
        have hlen : i < cs.length := by
          rcases Nat.lt_or_ge i cs.length with q | q
          · exact q
          · rw [List.drop_eq_nil_of_le q] at hq
            exfalso
            cases m with
            | zero => simp [DataW.trod] at hq
            | succ m =>
              simp only [List.take_nil] at hq
              unfold DataW.trod at hq
              split at hq <;> simp_all
        refine ⟨cs[i], List.getElem?_eq_getElem hlen, lit_ok (p := y.2) (fuel := m) (d := y.1) hq ?_⟩
        rw [List.drop_eq_getElem_cons hlen]; rfl
      · simp at e
    · rename_i ms s x ht; exact absurd ⟨ms, s, x, ht, rfl⟩ hi
    · simp at e
/-- what is told of global g, of type t -/
def glBlk (P : Program) (laid : List (String × DataW Unit)) (ts us : Nat → Nat) (g : Nat) : Blk :=
  match laid.find? fun x => P.globalNamed x.1 == some g, (P.globals[g]?).map (·.type) with
  | some x, some t => match glAV P t (us g) x.2 with
    | [] => .dead
    | a :: as => .cells false (ts g) (a :: as)
  | _, _ => .dead
def glBlks (P : Program) (laid : List (String × DataW Unit)) (ts us : Nat → Nat) : List Blk := (List.range P.globals.size).map (glBlk P laid ts us)
theorem laid_at {P : Program} {W : World} : ∀ {l : List (String × DataW Unit)} {ps : List MemPlace}, DataW.LaidVars P W l ps → ∀ x ∈ l, ∃ g t cs fuel p, P.globalNamed x.1 = some g ∧ (P.globals[g]?).map (·.type) = some t ∧ W.var? P x.1 = some cs ∧
    DataW.trod (fun _ => ()) P W 0 (fun _ => true) false fuel t cs.toList = some (x.2, p) ∧ ∀ y ∈ MemPlace.row ⟨g, 0, none⟩ cs.size, y ∈ ps
  | [], _, _, x, hx => by cases hx
  | (n, d) :: r, ps, h, x, hx => by
    obtain ⟨g, t, cs, fuel, p, q, h1, h2, h3, h4, h5, rfl⟩ := h
    rcases List.mem_cons.1 hx with rfl | hx
    · exact ⟨g, t, cs, fuel, p, h1, h2, h3, h4, fun y hy => by simp [hy]⟩
    · obtain ⟨g, t, cs, fuel, p, a1, a2, a3, a4, a5⟩ := laid_at h5 x hx
      exact ⟨g, t, cs, fuel, p, a1, a2, a3, a4, fun y hy => by have := a5 y hy; simp [this]⟩
theorem glBlk_ok {P : Program} {W : World} {laid : List (String × DataW Unit)} (hl : laidMet P laid W) (g : Nat) : ∃ t u, ∀ ts us : Nat → Nat, ts g = t → us g = u → GlOk W g (glBlk P laid ts us g) := by
  obtain ⟨ps, hv, _, hr⟩ := hl
  cases hf : laid.find? fun x => P.globalNamed x.1 == some g with
  | none => exact ⟨0, 0, fun ts us _ _ => .inl (by simp only [glBlk, hf])⟩
  | some x =>
    have hx : x ∈ laid := List.mem_of_find?_eq_some hf
    have hp := List.find?_some hf
    obtain ⟨g', ty, cs, fuel, p, a1, a2, a3, a4, a5⟩ := laid_at hv x hx
    have hg : g' = g := by simp only [a1, beq_iff_eq] at hp; injection hp
    subst hg
    obtain ⟨u, hu⟩ := glAV_ok a4
    have hw : ∃ t fr, W.heap[g']? = some (.cells cs t fr) := by
      unfold World.var? at a3
      rw [a1] at a3
      simp only [Option.bind_some] at a3
      split at a3
      · rename_i c t fr hh; injection a3 with a3; subst a3; exact ⟨_, _, hh⟩
      · cases a3
    obtain ⟨t, fr, hw⟩ := hw
    refine ⟨t, u, fun ts us e1 e2 => ?_⟩
    unfold glBlk
    rw [hf, a2]
    simp only
    rw [e2]
    cases hq : glAV P ty u x.2 with
    | nil => exact .inl rfl
    | cons a as =>
      rw [hq] at hu
      obtain ⟨v, hv0, _⟩ := hu 0 a rfl
      have hpos : 0 < cs.size := by
        rcases Nat.eq_zero_or_pos cs.size with q | q
        · rw [Array.eq_empty_of_size_eq_zero q] at hv0; simp at hv0
        · exact q
      obtain ⟨⟨c, t', hc⟩, _⟩ := hr g' 0 (a5 _ (by simp [MemPlace.row]; exact hpos))
      rw [hw] at hc; injection hc with hc; injection hc with _ _ hfr
      subst hfr
      refine .inr ⟨_, _, cs, rfl, by rw [e1]; exact hw, fun i a ha => ?_⟩
      obtain ⟨v, h1, h2⟩ := hu i a ha
      exact ⟨v, by rw [← Array.getElem?_toList]; exact h1, h2⟩
end Go.Am

/- One operation once more, told apart by its kind at once: it says the same, and is reckoned sooner. No condition. -/
namespace Go.Am
open Go
set_option linter.all false
noncomputable def q_move (T : Ty) (G : Gam) (ty : Nat) (x : Operand) : (Operand → AV) → H → (AV → H → Prop) → Prop := fun ρ h k => k (ρ x) h
noncomputable def q_assign (T : Ty) (G : Gam) (ty : Nat) (x : Operand) : (Operand → AV) → H → (AV → H → Prop) → Prop := fun ρ h k => k (ρ x) h
noncomputable def q_pick (T : Ty) (G : Gam) (ty : Nat) (c : Operand) (a : Operand) (b : Operand) : (Operand → AV) → H → (AV → H → Prop) → Prop := fun ρ h k => pickK (T ty).kd (ρ c) (ρ a) (ρ b) fun v => k v h
noncomputable def q_nilCheck (T : Ty) (G : Gam) (ty : Nat) (x : Operand) : (Operand → AV) → H → (AV → H → Prop) → Prop := fun ρ h k => okNil (ρ x) (k (ρ x) h)
noncomputable def q_binOp (T : Ty) (G : Gam) (ty : Nat) (op : BinOp) (t : TypeId) (x : Operand) (y : Operand) (_ : TypeId) : (Operand → AV) → H → (AV → H → Prop) → Prop := fun ρ h k => binK T op t x y ρ fun v => k v h
noncomputable def q_unOp (T : Ty) (G : Gam) (ty : Nat) (op : UnOp) (_ : TypeId) (x : Operand) : (Operand → AV) → H → (AV → H → Prop) → Prop := fun ρ h k => match op with
    | .not => asB (ρ x) fun b => fB (Bool.not b) fun b => k (.bool b) h
    | op => op' (aUn op (ρ x)) fun v => castK (T ty).kd v fun v => k v h
noncomputable def q_convert (T : Ty) (G : Gam) (ty : Nat) (s : TypeId) (d : TypeId) (x : Operand) : (Operand → AV) → H → (AV → H → Prop) → Prop := fun ρ h k => match (T s).kd, (T d).kd with
    | .int k1, .int k2 => asI k1 (ρ x) fun n => fI (wrapF k2 n) fun z => k (.int k2 z) h
    | .str, .str => asS (ρ x) fun s => k (.str s) h
    | .slice e, .str => match (T e).kd.isU8 with
      | true => toStrK (ρ x) h fun s => k (.str s) h
      | false => False
    | .str, .slice e => match (T e).kd.isU8 with
      | true => asS (ρ x) fun s => pushK (.bytes e 0 true s) h fun n h' => k (.slice n 0 s.len s.len 1 false) h'
      | false => False
    | _, _ => opX T G (.convert s d x) ρ h k
noncomputable def q_fieldAddr (T : Ty) (G : Gam) (ty : Nat) (t : TypeId) (x : Operand) (f : Nat) : (Operand → AV) → H → (AV → H → Prop) → Prop := fun ρ h k => match fieldOf T t f with
    | some (off, _) => faK off (ρ x) fun v => k v h
    | none => False
noncomputable def q_field (T : Ty) (G : Gam) (ty : Nat) (t : TypeId) (x : Operand) (f : Nat) : (Operand → AV) → H → (AV → H → Prop) → Prop := fun ρ h k => match fieldOf T t f with
    | some (off, ft) => asAgg (ρ x) fun cs => partK (T ft).kd (T ft).size off cs fun v => k v h
    | none => False
noncomputable def q_indexAddr (T : Ty) (G : Gam) (ty : Nat) (t : TypeId) (x : Operand) (i : Operand) : (Operand → AV) → H → (AV → H → Prop) → Prop := fun ρ h k => match (T t).kd with
    | .slice e => match (T e).kd.known with
      | true => ixK (T e).size (ρ x) (ρ i) fun v => k v h
      | false => False
    | .arr n e => match (T e).kd.known with
      | true => ixaK n (T e).size (ρ x) (ρ i) fun v => k v h
      | false => False
    | _ => False
noncomputable def q_index (T : Ty) (G : Gam) (ty : Nat) (t : TypeId) (x : Operand) (i : Operand) : (Operand → AV) → H → (AV → H → Prop) → Prop := fun ρ h k => match (T t).kd with
    | .str => ixsK (ρ x) (ρ i) fun n => k (.int .u8 n) h
    | .arr n e => match (T e).kd.known with
      | true => asAgg (ρ x) fun cs => asNat (ρ i) fun i => ck (Nat.blt i n) (fN (Nat.mul i (T e).size) fun o => partK (T e).kd (T e).size o cs fun v => k v h)
      | false => False
    | _ => False
noncomputable def q_extract (T : Ty) (G : Gam) (ty : Nat) (x : Operand) (i : Nat) : (Operand → AV) → H → (AV → H → Prop) → Prop := fun ρ h k => asTup (ρ x) fun vs => op' (lgetO vs i) fun v => castK (T ty).kd v fun v => k v h
noncomputable def q_build (T : Ty) (G : Gam) (ty : Nat) (t : TypeId) (ps : Array (Nat × Operand)) : (Operand → AV) → H → (AV → H → Prop) → Prop := fun ρ h k => match (T t).kd with
    | .struct fs => match fs.all (fun p => (T p.2).kd.known) with
      | true => fillK T ρ (placeS T fs) ps.toList (T t).zero fun cs => k (.agg cs) h
      | false => False
    | .arr _ e => match (T e).kd.known with
      | true => fillK T ρ (placeA T e) ps.toList (T t).zero fun cs => k (.agg cs) h
      | false => False
    | _ => False
noncomputable def q_load (T : Ty) (G : Gam) (ty : Nat) (t : TypeId) (a : Operand) : (Operand → AV) → H → (AV → H → Prop) → Prop := fun ρ h k => ldK T t (ρ a) h fun v => k v h
noncomputable def q_store (T : Ty) (G : Gam) (ty : Nat) (t : TypeId) (a : Operand) (x : Operand) : (Operand → AV) → H → (AV → H → Prop) → Prop := fun ρ h k => stK T t (ρ a) (ρ x) h (k .junk)
noncomputable def q_alloc (T : Ty) (G : Gam) (ty : Nat) (e : TypeId) : (Operand → AV) → H → (AV → H → Prop) → Prop := fun ρ h k => match (T e).kd.known with
    | true => pushK (.cells false e (T e).zero) h fun n h' => k (.ptr n 0) h'
    | false => False
noncomputable def q_box (T : Ty) (G : Gam) (ty : Nat) (e : TypeId) (x : Operand) : (Operand → AV) → H → (AV → H → Prop) → Prop := fun ρ h k => match (T e).kd.agg with
    | true => asAgg (ρ x) fun cs => pushK (.cells false e cs) h fun n h' => k (.ptr n 0) h'
    | false => ck (isOne (ρ x)) (pushK (.cells false e [ρ x]) h fun n h' => k (.ptr n 0) h')
noncomputable def q_buildSlice (T : Ty) (G : Gam) (ty : Nat) (t : TypeId) (n : Nat) (ps : Array (Nat × Operand)) : (Operand → AV) → H → (AV → H → Prop) → Prop := fun ρ h k => match (T t).kd with
    | .slice e => match rowOk T e && Nat.ble 0 n && Nat.ble (Nat.mul n (T e).size) 16777216 with
      | true => fillK T ρ (placeA T e) ps.toList (lrep n (T e).zero) fun cs => op' (asRow (T e).kd.isU8 e cs) fun b => pushK b h fun i h' => k (.slice i 0 n n (T e).size true) h'
      | false => False
    | _ => False
noncomputable def q_makeSlice (T : Ty) (G : Gam) (ty : Nat) (t : TypeId) (l : Operand) (c : Operand) : (Operand → AV) → H → (AV → H → Prop) → Prop := fun ρ h k => op' (opA T (.makeSlice t l c) ρ) fun p => pushK p.1 h fun n h' => k (p.2 n) h'
noncomputable def q_lookup (T : Ty) (G : Gam) (ty : Nat) (t : TypeId) (x : Operand) (i : Operand) (ok : Bool) : (Operand → AV) → H → (AV → H → Prop) → Prop := fun ρ h k => match (T t).kd with
    | .map kt e => op' (aLookup T kt e ok (ρ x) (ρ i) h) fun v => castK (T ty).kd v fun v => k v h
    | _ => False
noncomputable def q_mapUpdate (T : Ty) (G : Gam) (ty : Nat) (t : TypeId) (m : Operand) (i : Operand) (v : Operand) : (Operand → AV) → H → (AV → H → Prop) → Prop := fun ρ h k => match (T t).kd with
    | .map kt _ => op' (mapBlk T kt (ρ m) (ρ i) (ρ v) h) fun p => putK p.1 p.2 h (k .junk)
    | _ => False
noncomputable def q_range (T : Ty) (G : Gam) (ty : Nat) (t : TypeId) (x : Operand) : (Operand → AV) → H → (AV → H → Prop) → Prop := fun ρ h k => match (T t).kd with
    | .map _ _ => aRangeK (ρ x) h k
    | _ => False
noncomputable def q_typeAssert (T : Ty) (G : Gam) (ty : Nat) (x : Operand) (_ : TypeId) (a : TypeId) (ok : Bool) : (Operand → AV) → H → (AV → H → Prop) → Prop := fun ρ h k => op' (aAssert T a ok (ρ x)) fun v => castK (T ty).kd v fun v => k v h
noncomputable def q_slice (T : Ty) (G : Gam) (ty : Nat) (t : TypeId) (x : Operand) (lo hi mx : Option Operand) : (Operand → AV) → H → (AV → H → Prop) → Prop := fun ρ h k => match mx with
  | none => match (T t).kd with
    | .str => subK (ρ x) (lo.map ρ) (hi.map ρ) fun s => k (.str s) h
    | .slice e => match (T e).kd.known with
      | true => slK (T e).size (ρ x) (lo.map ρ) (hi.map ρ) fun v => k v h
      | false => False
    | .arr _ _ => opX T G (.slice t x lo hi none) ρ h k
    | _ => False
  | some m => opX T G (.slice t x lo hi (some m)) ρ h k
noncomputable def q_makeMap (T : Ty) (G : Gam) (ty : Nat) (t : TypeId) (r : Option Operand) : (Operand → AV) → H → (AV → H → Prop) → Prop := fun ρ h k => match r with
  | none => pushK (.smap []) h fun n h' => k (.map n) h'
  | some m => opX T G (.makeMap t (some m)) ρ h k
noncomputable def q_len (T : Ty) (G : Gam) (ty : Nat) (args : Array Operand) (argTypes : Array TypeId) : (Operand → AV) → H → (AV → H → Prop) → Prop := fun ρ h k => match args.toList, argTypes.toList with
    | [x], [t] => match (T t).kd with
      | .str => asS (ρ x) fun s => k (.int .i64 (Int.ofNat s.len)) h
      | .slice _ => asSl (ρ x) (k (.int .i64 (Int.ofNat 0)) h) fun _ _ len _ _ _ => k (.int .i64 (Int.ofNat len)) h
      | .map _ _ => op' (aLenMap (ρ x) h) fun v => k v h
      | _ => False
    | _, _ => False
noncomputable def q_append (T : Ty) (G : Gam) (ty : Nat) (args : Array Operand) (argTypes : Array TypeId) : (Operand → AV) → H → (AV → H → Prop) → Prop := fun ρ h k => match args.toList, argTypes.toList with
    | [s, x], [t, t2] => match (T t).kd with
      | .slice e => match rowOk T e && strOrSlice (T t2).kd with
        | true => match (T e).kd.isU8 && Nat.beq (T e).size 1 && Nat.beq (T e).bytes 1 with
          | true => apB (T t2).kd e (ρ s) (ρ x) h k
          | false => apC e (T e).size (T e).bytes (ρ s) (ρ x) h k
        | false => False
      | _ => False
    | _, _ => False
noncomputable def q_builtin (T : Ty) (G : Gam) (ty : Nat) (b : Builtin) (args : Array Operand) (argTypes : Array TypeId) : (Operand → AV) → H → (AV → H → Prop) → Prop := match b with
  | .len => q_len T G ty args argTypes
  | .append => q_append T G ty args argTypes
  | b => fun ρ h k => opF T G ty (.call ⟨.builtin b, args, argTypes⟩) ρ h k
noncomputable def q_value (T : Ty) (G : Gam) (ty : Nat) (f : Operand) (args : Array Operand) : (Operand → AV) → H → (AV → H → Prop) → Prop := fun ρ h k => callK G (ρ f) (args.toList.map ρ) h fun v h' => castK (T ty).kd v fun v => k v h'
noncomputable def q_invoke (T : Ty) (G : Gam) (ty : Nat) (r : Operand) (m : String) (args : Array Operand) (argTypes : Array TypeId) : (Operand → AV) → H → (AV → H → Prop) → Prop := fun ρ h k => opX T G (.call ⟨.invoke r m, args, argTypes⟩) ρ h k
noncomputable def q_call (T : Ty) (G : Gam) (ty : Nat) (c : Call) : (Operand → AV) → H → (AV → H → Prop) → Prop := Call.rec (motive := fun _ => (Operand → AV) → H → (AV → H → Prop) → Prop) (fun ce args argTypes => Callee.rec (motive := fun _ => (Operand → AV) → H → (AV → H → Prop) → Prop) (fun f => q_value T G ty f args) (fun r m => q_invoke T G ty r m args argTypes) (fun b => q_builtin T G ty b args argTypes) ce) c
noncomputable def q_insert (T : Ty) (G : Gam) (ty : Nat) (x0 : TypeId) (x1 : Operand) (x2 : Operand) (x3 : Operand) : (Operand → AV) → H → (AV → H → Prop) → Prop := fun ρ h k => opX T G (.insert x0 x1 x2 x3) ρ h k
noncomputable def q_ready (T : Ty) (G : Gam) (ty : Nat) (x0 : Nat) : (Operand → AV) → H → (AV → H → Prop) → Prop := fun ρ h k => opX T G (.ready x0) ρ h k
noncomputable def q_waits (T : Ty) (G : Gam) (ty : Nat) (x0 : Nat) : (Operand → AV) → H → (AV → H → Prop) → Prop := fun ρ h k => opX T G (.waits x0) ρ h k
noncomputable def q_sliceToArrayPointer (T : Ty) (G : Gam) (ty : Nat) (x0 : TypeId) (x1 : Operand) : (Operand → AV) → H → (AV → H → Prop) → Prop := fun ρ h k => opX T G (.sliceToArrayPointer x0 x1) ρ h k
noncomputable def q_makeInterface (T : Ty) (G : Gam) (ty : Nat) (x0 : TypeId) (x1 : Operand) : (Operand → AV) → H → (AV → H → Prop) → Prop := fun ρ h k => opX T G (.makeInterface x0 x1) ρ h k
noncomputable def q_makeFunc (T : Ty) (G : Gam) (ty : Nat) (x0 : Fn) (x1 : Array Operand) (x2 : Array Operand) : (Operand → AV) → H → (AV → H → Prop) → Prop := fun ρ h k => opX T G (.makeFunc x0 x1 x2) ρ h k
noncomputable def q_makeChan (T : Ty) (G : Gam) (ty : Nat) (x0 : TypeId) (x1 : Operand) : (Operand → AV) → H → (AV → H → Prop) → Prop := fun ρ h k => opX T G (.makeChan x0 x1) ρ h k
noncomputable def q_mapEntry (T : Ty) (G : Gam) (ty : Nat) (x0 : TypeId) (x1 : Operand) (x2 : Operand) : (Operand → AV) → H → (AV → H → Prop) → Prop := fun ρ h k => opX T G (.mapEntry x0 x1 x2) ρ h k
noncomputable def q_entryStore (T : Ty) (G : Gam) (ty : Nat) (x0 : TypeId) (x1 : Operand) (x2 : Operand) (x3 : Operand) : (Operand → AV) → H → (AV → H → Prop) → Prop := fun ρ h k => opX T G (.entryStore x0 x1 x2 x3) ρ h k
noncomputable def q_next (T : Ty) (G : Gam) (ty : Nat) (x0 : Operand) (x1 : Bool) : (Operand → AV) → H → (AV → H → Prop) → Prop := fun ρ h k => opF T G ty (.next x0 x1) ρ h k
noncomputable def q_entry (T : Ty) (G : Gam) (ty : Nat) (x0 : Operand) : (Operand → AV) → H → (AV → H → Prop) → Prop := fun ρ h k => opX T G (.entry x0) ρ h k
noncomputable def q_go (T : Ty) (G : Gam) (ty : Nat) (x0 : Call) : (Operand → AV) → H → (AV → H → Prop) → Prop := fun ρ h k => opX T G (.go x0) ρ h k
noncomputable def q_defer (T : Ty) (G : Gam) (ty : Nat) (x0 : Call) : (Operand → AV) → H → (AV → H → Prop) → Prop := fun ρ h k => opX T G (.defer x0) ρ h k
noncomputable def q_panic (T : Ty) (G : Gam) (ty : Nat) (x0 : Operand) : (Operand → AV) → H → (AV → H → Prop) → Prop := fun ρ h k => opX T G (.panic x0) ρ h k
noncomputable def q_send (T : Ty) (G : Gam) (ty : Nat) (x0 : Operand) (x1 : Operand) : (Operand → AV) → H → (AV → H → Prop) → Prop := fun ρ h k => opX T G (.send x0 x1) ρ h k
noncomputable def q_recv (T : Ty) (G : Gam) (ty : Nat) (x0 : TypeId) (x1 : Operand) (x2 : Bool) : (Operand → AV) → H → (AV → H → Prop) → Prop := fun ρ h k => opX T G (.recv x0 x1 x2) ρ h k
noncomputable def q_select (T : Ty) (G : Gam) (ty : Nat) (x0 : Array SelectCase) (x1 : Bool) : (Operand → AV) → H → (AV → H → Prop) → Prop := fun ρ h k => opX T G (.select x0 x1) ρ h k
/-- one operation -/
noncomputable def opQ (T : Ty) (G : Gam) (ty : Nat) (o : Op) : (Operand → AV) → H → (AV → H → Prop) → Prop := Op.rec (motive := fun _ => (Operand → AV) → H → (AV → H → Prop) → Prop) (q_move T G ty) (q_assign T G ty) (q_pick T G ty) (q_alloc T G ty) (q_box T G ty) (q_build T G ty) (q_buildSlice T G ty) (q_insert T G ty) (q_load T G ty) (q_store T G ty) (q_ready T G ty) (q_waits T G ty) (q_nilCheck T G ty) (q_binOp T G ty) (q_unOp T G ty) (q_convert T G ty) (q_sliceToArrayPointer T G ty) (q_makeInterface T G ty) (q_makeFunc T G ty) (q_makeMap T G ty) (q_makeChan T G ty) (q_makeSlice T G ty) (q_slice T G ty) (q_fieldAddr T G ty) (q_field T G ty) (q_indexAddr T G ty) (q_index T G ty) (q_lookup T G ty) (q_mapUpdate T G ty) (q_mapEntry T G ty) (q_entryStore T G ty) (q_range T G ty) (q_next T G ty) (q_entry T G ty) (q_typeAssert T G ty) (q_extract T G ty) (q_call T G ty) (q_go T G ty) (q_defer T G ty) (q_panic T G ty) (q_send T G ty) (q_recv T G ty) (q_select T G ty) o
noncomputable def isDefer (o : Op) : Bool := Op.rec (motive := fun _ => Bool) (fun _ => false) (fun _ => false) (fun _ _ _ => false) (fun _ => false) (fun _ _ => false) (fun _ _ => false) (fun _ _ _ => false) (fun _ _ _ _ => false) (fun _ _ => false) (fun _ _ _ => false) (fun _ => false) (fun _ => false) (fun _ => false) (fun _ _ _ _ _ => false) (fun _ _ _ => false) (fun _ _ _ => false) (fun _ _ => false) (fun _ _ => false) (fun _ _ _ => false) (fun _ _ => false) (fun _ _ => false) (fun _ _ _ => false) (fun _ _ _ _ _ => false) (fun _ _ _ => false) (fun _ _ _ => false) (fun _ _ _ => false) (fun _ _ _ => false) (fun _ _ _ _ => false) (fun _ _ _ _ => false) (fun _ _ _ => false) (fun _ _ _ _ => false) (fun _ _ => false) (fun _ _ => false) (fun _ => false) (fun _ _ _ _ => false) (fun _ _ => false) (fun _ => false) (fun _ => false) (fun _ => true) (fun _ => false) (fun _ _ => false) (fun _ _ _ => false) (fun _ _ => false) o
theorem opQ_eq : opQ = opF := by
  funext T G ty o
  cases o
  case slice t x lo hi mx => cases mx <;> rfl
  case makeMap t r => cases r <;> rfl
  case next i s => rfl
  case call c =>
    obtain ⟨callee, args, argTypes⟩ := c
    cases callee with
    | value f => rfl
    | invoke r m => rfl
    | builtin b => cases b <;> rfl
  all_goals rfl
end Go.Am

/- The functional semantics of code once more, a function's slots told as they were written, the last ahead: it says the same, and is reckoned sooner. No condition. -/
namespace Go.Am
open Go
set_option linter.all false
/-- slots that were written, the last ahead -/
inductive Sl where
  | nil
  | cons (d : Nat) (v : AV) (r : Sl)
noncomputable def sget (e : Sl) (t : Nat) : AV := Sl.rec (motive := fun _ => AV) .junk (fun d v _ ih => Bool.rec (motive := fun _ => AV) ih v (Nat.beq t d)) e
noncomputable def sgetK (e : Sl) (t : Nat) (k : AV → Prop) : Prop := Sl.rec (motive := fun _ => Prop) (k .junk) (fun d v _ ih => Bool.rec (motive := fun _ => Prop) ih (k v) (Nat.beq t d)) e
theorem sget_cons (d t : Nat) (v : AV) (r : Sl) : sget (.cons d v r) t = if t = d then v else sget r t := by
  show (Bool.rec (motive := fun _ => AV) (sget r t) v (Nat.beq t d)) = _
  cases h : Nat.beq t d with
  | true => rw [Nat.beq_eq] at h; rw [if_pos h]
  | false => rw [if_neg (by intro e; rw [← Nat.beq_eq, h] at e; cases e)]
theorem sgetK_eq (t : Nat) (k : AV → Prop) : ∀ e : Sl, sgetK e t k = k (sget e t)
  | .nil => rfl
  | .cons d v r => by
    show (Bool.rec (motive := fun _ => Prop) (sgetK r t k) (k v) (Nat.beq t d)) = k (Bool.rec (motive := fun _ => AV) (sget r t) v (Nat.beq t d))
    cases Nat.beq t d with
    | true => rfl
    | false => exact sgetK_eq t k r
/-- what stands in slots of a list of n, told both ways -/
structure SlE (n : Nat) (e : Sl) (env : List AV) : Prop where
  len : env.length = n
  get : ∀ t, sget e t = lget .junk env t
noncomputable def evS (e : Sl) : Operand → AV
  | .tmp t => sget e t
  | .const v => ofVal v
  | .global g => .glob g 0
  | .func f => .func (.func f) [] []
theorem evS_eq {n : Nat} {e : Sl} {env : List AV} (h : SlE n e env) : evS e = ev env := by
  funext x; cases x <;> first | rfl | exact h.get _
noncomputable def putS (n : Nat) (dst : Option Nat) (v : AV) (e : Sl) (k : Sl → Prop) : Prop :=
  match dst with
  | some d => Bool.rec (motive := fun _ => Prop) (k e) (k (.cons d v e)) (Nat.blt d n)
  | none => k e
theorem putS_eq {n : Nat} {e : Sl} {env : List AV} (h : SlE n e env) (dst : Option Nat) (v : AV) {k' : Sl → Prop} {k : List AV → Prop} (hk : ∀ e env, SlE n e env → k' e = k env) : putS n dst v e k' = putE dst v env k := by
  rw [putE_eq]
  cases dst with
  | none => exact hk _ _ h
  | some d =>
    show (Bool.rec (motive := fun _ => Prop) (k' e) (k' (.cons d v e)) (Nat.blt d n)) = k (lset env d v)
    cases hb : Nat.blt d n with
    | true =>
      rw [blt_iff] at hb
      refine hk _ _ ⟨by rw [lset_eq, List.length_set, h.len], fun t => ?_⟩
      rw [sget_cons, lget_eq, lset_eq, h.get t, lget_eq]
      by_cases ht : t = d
      · subst ht; rw [if_pos rfl, List.getD_eq_getElem?_getD, List.getElem?_set_self (by rw [h.len]; exact hb)]; rfl
      · rw [if_neg ht, List.getD_eq_getElem?_getD, List.getD_eq_getElem?_getD, List.getElem?_set_ne (fun q => ht q.symm)]
    | false =>
      have hd : ¬ d < n := fun q => by rw [← blt_iff, hb] at q; cases q
      refine hk _ _ ⟨by rw [lset_eq, List.length_set, h.len], fun t => ?_⟩
      rw [h.get t, lget_eq, lget_eq, lset_eq, List.set_eq_of_length_le (by rw [h.len]; omega)]
noncomputable def guardSome (J : Joins) (all : List Oper) (e : Sl) (h : H) (run : (AV → H → Prop) → Prop) (k : AV → H → Prop) (g : Nat × Bool) : Prop :=
  match g with
  | (j, want) => match all[j]? with
    | some oj => match oj.dst with
      | some d => J.jn k fun j => asBU (sget e d) (fun b => match want with
        | true => br b (run j) (j skipV h)
        | false => br b (j skipV h) (run j)) (j skipV h)
      | none => False
    | none => False
noncomputable def guardS (J : Joins) (all : List Oper) (o : Oper) (e : Sl) (h : H) (run : (AV → H → Prop) → Prop) (k : AV → H → Prop) : Prop :=
  Option.rec (motive := fun _ => Prop) (run k) (guardSome J all e h run k) o.guard
theorem guardS_eq {n : Nat} {e : Sl} {env : List AV} (hE : SlE n e env) (J : Joins) (all : List Oper) (o : Oper) (h : H) (run : (AV → H → Prop) → Prop) (k : AV → H → Prop) : guardS J all o e h run k = guardK J all o env h run k := by
  unfold guardS guardK
  cases o.guard with
  | none => rfl
  | some g =>
    obtain ⟨j, want⟩ := g
    show guardSome J all e h run k (j, want) = _
    unfold guardSome
    simp only [hE.get]
    rfl
noncomputable def runSeqS (X : Ty → Gam → Nat → Op → (Operand → AV) → H → (AV → H → Prop) → Prop) (T : Ty) (G : Gam) (top : Bool) (n : Nat) (all : List Oper) (ops : List Oper) : Sl → List Dfr → H → (Sl → List Dfr → H → Prop) → Prop :=
  List.rec (motive := fun _ => Sl → List Dfr → H → (Sl → List Dfr → H → Prop) → Prop) (fun e ds h k => k e ds h)
    (fun o _ ih e ds h k => Bool.rec (motive := fun _ => Prop) (guardS G.J all o e h (X T G o.type o.op (evS e) h) fun v h' => putS n o.dst v e fun e => ih e ds h' k) (match o.op with
      | .defer c => match top, o.guard, c.callee with
        | true, none, .value f => match evS e f with
          | .func (.func g) first captured => putS n o.dst .junk e fun e1 => ih e1 (.call g (first ++ c.args.toList.map (evS e)) captured :: ds) h k
          | _ => False
        | _, _, _ => False
      | _ => False) (isDefer o.op)) ops
theorem runSeqS_eq (T : Ty) (G : Gam) (top : Bool) (n : Nat) (all : List Oper) : ∀ (ops : List Oper) (e : Sl) (env : List AV) (ds : List Dfr) (h : H) (k' : Sl → List Dfr → H → Prop) (k : List AV → List Dfr → H → Prop), SlE n e env → (∀ e env ds h, SlE n e env → k' e ds h = k env ds h) → runSeqS opF T G top n all ops e ds h k' = runSeq T G top all ops env ds h k
  | [], e, env, ds, h, k', k, hE, hk => hk _ _ _ _ hE
  | o :: r, e, env, ds, h, k', k, hE, hk => by
    have ih := fun e env ds h hE => runSeqS_eq T G top n all r e env ds h k' k hE hk
    obtain ⟨dst, op, type, pos, after, guard⟩ := o
    have hv := evS_eq hE
    cases op
    case defer c =>
      show (match (generalizing := false) top, guard, c.callee with
        | true, none, .value f => match evS e f with
          | .func (.func g) first captured => putS n dst .junk e fun e1 => runSeqS opF T G top n all r e1 (.call g (first ++ c.args.toList.map (evS e)) captured :: ds) h k'
          | _ => False
        | _, _, _ => False) = (match (generalizing := false) top, guard, c.callee with
        | true, none, .value f => match ev env f with
          | .func (.func g) first captured => putE dst .junk env fun env1 => runSeq T G top all r env1 (.call g (first ++ c.args.toList.map (ev env)) captured :: ds) h k
          | _ => False
        | _, _, _ => False)
      rw [hv]
      cases top with
      | false => rfl
      | true =>
        cases guard with
        | some g => rfl
        | none =>
          generalize c.callee = cal
          cases cal with
          | value f =>
            show (match ev env f with
              | .func (.func g) first captured => putS n dst .junk e fun e1 => runSeqS opF T G true n all r e1 (.call g (first ++ c.args.toList.map (ev env)) captured :: ds) h k'
              | _ => False) = (match ev env f with
              | .func (.func g) first captured => putE dst .junk env fun env1 => runSeq T G true all r env1 (.call g (first ++ c.args.toList.map (ev env)) captured :: ds) h k
              | _ => False)
            generalize ev env f = x
            cases x with
            | func fn a b =>
              cases fn with
              | func g => exact putS_eq hE _ _ fun e env hE => ih _ _ _ _ hE
              | _ => rfl
            | _ => rfl
          | _ => rfl
    all_goals
      refine (guardS_eq hE G.J all _ h _ _).trans ?_
      rw [hv]
      show guardK _ _ _ _ _ _ _ = guardK _ _ _ _ _ _ _
      congr 1
      funext v h'
      exact putS_eq hE _ _ fun e env hE => ih _ _ _ _ hE
/-- a reading that was done -/
structure SeenS where
  i : Nat
  op : Op
  e : Sl
  v : AV
  b : Bool
noncomputable def rereadS (T : Ty) (m : Nat) (h : H) (k : Prop) (l : List SeenS) : Prop :=
  List.rec (motive := fun _ => Prop) k (fun s _ ih => match Bool.or (Nat.testBit m s.i) (isGl s.op) with
    | true => ih
    | false => ck (Bool.rec (motive := fun _ => Bool) true (readsSo (opR T s.op (evS s.e) h) s.v) s.b) ih) l
inductive SeenE (n : Nat) : List SeenS → List Seen → Prop
  | nil : SeenE n [] []
  | cons {i : Nat} {op : Op} {e : Sl} {env : List AV} {v : AV} {b : Bool} {l : List SeenS} {l' : List Seen} (h : SlE n e env) (r : SeenE n l l') : SeenE n (⟨i, op, e, v, b⟩ :: l) (⟨i, op, env, v, b⟩ :: l')
theorem rereadS_eq {n : Nat} (T : Ty) (m : Nat) (h : H) {k k' : Prop} (hk : k' = k) {l : List SeenS} {l' : List Seen} (hl : SeenE n l l') : rereadS T m h k' l = rereadK T m h k l' := by
  induction hl with
  | nil => exact hk
  | @cons i op e env v b l l' hE r ih =>
    show (match Bool.or (Nat.testBit m i) (isGl op) with
      | true => rereadS T m h k' l
      | false => ck (Bool.rec (motive := fun _ => Bool) true (readsSo (opR T op (evS e) h) v) b) (rereadS T m h k' l)) = _
    unfold rereadK
    rw [ih, evS_eq hE]
    rfl
noncomputable def guardBS (J : Joins) (all : List Oper) (o : Oper) (e : Sl) (run : (AV → Prop) → Prop) (k : Bool → AV → Prop) : Prop :=
  match o.guard with
  | none => run (k true)
  | some (j, want) => match all[j]? with
    | some oj => match oj.dst with
      | some d => J.jb k fun j => asBU (sget e d) (fun b => match want with
        | true => br b (run (j true)) (j false skipV)
        | false => br b (j false skipV) (run (j true))) (j false skipV)
      | none => False
    | none => False
theorem guardBS_eq {n : Nat} {e : Sl} {env : List AV} (hE : SlE n e env) (J : Joins) (all : List Oper) (o : Oper) (run : (AV → Prop) → Prop) (k : Bool → AV → Prop) : guardBS J all o e run k = guardB J all o env run k := by
  unfold guardBS guardB
  simp only [hE.get]
  rfl
noncomputable def runOrdS (X : Ty → Gam → Nat → Op → (Operand → AV) → H → (AV → H → Prop) → Prop) (T : Ty) (G : Gam) (n : Nat) (all : List Oper) (M : List Nat) (π : List Nat) : List SeenS → Sl → H → (List SeenS → Sl → H → Prop) → Prop :=
  List.rec (motive := fun _ => List SeenS → Sl → H → (List SeenS → Sl → H → Prop) → Prop) (fun s e h k => k s e h)
    (fun i _ ih seen e h k => match all[i]? with
      | none => False
      | some o => match opC T o.op with
        | 1 => guardBS G.J all o e (fun k => X T G o.type o.op (evS e) h fun v _ => k v) fun b v => putS n o.dst v e fun e' => ih (⟨i, o.op, e, v, b⟩ :: seen) e' h k
        | 3 => guardS G.J all o e h (X T G o.type o.op (evS e) h) fun v h' => rereadS T (M.getD i 0) h' (putS n o.dst v e fun e => ih seen e h' k) seen
        | _ => guardS G.J all o e h (X T G o.type o.op (evS e) h) fun v h' => putS n o.dst v e fun e => ih seen e h' k) π
theorem runOrdS_eq (T : Ty) (G : Gam) (n : Nat) (all : List Oper) (M : List Nat) : ∀ (π : List Nat) (seen : List SeenS) (seen' : List Seen) (e : Sl) (env : List AV) (h : H) (k' : List SeenS → Sl → H → Prop) (k : List Seen → List AV → H → Prop), SeenE n seen seen' → SlE n e env → (∀ s s' e env h, SeenE n s s' → SlE n e env → k' s e h = k s' env h) → runOrdS opF T G n all M π seen e h k' = runOrd T G all M π seen' env h k
  | [], _, _, _, _, _, _, _, hs, hE, hk => hk _ _ _ _ _ hs hE
  | i :: r, seen, seen', e, env, h, k', k, hs, hE, hk => by
    have ih := fun seen seen' e env h hs hE => runOrdS_eq T G n all M r seen seen' e env h k' k hs hE hk
    show (match all[i]? with
      | none => False
      | some o => match opC T o.op with
        | 1 => guardBS G.J all o e (fun k => opF T G o.type o.op (evS e) h fun v _ => k v) fun b v => putS n o.dst v e fun e' => runOrdS opF T G n all M r (⟨i, o.op, e, v, b⟩ :: seen) e' h k'
        | 3 => guardS G.J all o e h (opF T G o.type o.op (evS e) h) fun v h' => rereadS T (M.getD i 0) h' (putS n o.dst v e fun e => runOrdS opF T G n all M r seen e h' k') seen
        | _ => guardS G.J all o e h (opF T G o.type o.op (evS e) h) fun v h' => putS n o.dst v e fun e => runOrdS opF T G n all M r seen e h' k') = _
    unfold runOrd
    rw [evS_eq hE]
    cases all[i]? with
    | none => rfl
    | some o =>
      have two : (guardS G.J all o e h (opF T G o.type o.op (ev env) h) fun v h' => putS n o.dst v e fun e => runOrdS opF T G n all M r seen e h' k') = (guardK G.J all o env h (opF T G o.type o.op (ev env) h) fun v h' => putE o.dst v env fun env => runOrd T G all M r seen' env h' k) := by
        rw [guardS_eq hE]
        congr 1
        funext v h'
        exact putS_eq hE _ _ fun e env hE' => ih _ _ _ _ _ hs hE'
      have three : (guardS G.J all o e h (opF T G o.type o.op (ev env) h) fun v h' => rereadS T (M.getD i 0) h' (putS n o.dst v e fun e => runOrdS opF T G n all M r seen e h' k') seen) = (guardK G.J all o env h (opF T G o.type o.op (ev env) h) fun v h' => rereadK T (M.getD i 0) h' (putE o.dst v env fun env => runOrd T G all M r seen' env h' k) seen') := by
        rw [guardS_eq hE]
        congr 1
        funext v h'
        exact rereadS_eq T _ _ (putS_eq hE _ _ fun e env hE' => ih _ _ _ _ _ hs hE') hs
      have one : (guardBS G.J all o e (fun k => opF T G o.type o.op (ev env) h fun v _ => k v) fun b v => putS n o.dst v e fun e' => runOrdS opF T G n all M r (⟨i, o.op, e, v, b⟩ :: seen) e' h k') = (guardB G.J all o env (fun k => opF T G o.type o.op (ev env) h fun v _ => k v) fun b v => putE o.dst v env fun env' => runOrd T G all M r (⟨i, o.op, env, v, b⟩ :: seen') env' h k) := by
        rw [guardBS_eq hE]
        congr 1
        funext b v
        exact putS_eq hE _ _ fun e env hE' => ih _ _ _ _ _ (.cons hE hs) hE'
      show (match opC T o.op with
        | 1 => _
        | 3 => _
        | _ => _) = (match opC T o.op with
        | 1 => _
        | 3 => _
        | _ => _)
      generalize opC T o.op = q
      rcases q with _ | _ | _ | _ | q
      · exact two
      · exact one
      · exact two
      · exact three
      · exact two

noncomputable def mkS : (L : List Nat) → Tup L → Sl
  | [], _ => .nil
  | t :: l, v => .cons t v.1 (mkS l v.2)
noncomputable def getSK : (L : List Nat) → Sl → (Tup L → Prop) → Prop
  | [], _, k => k ()
  | t :: l, e, k => sgetK e t fun v => getSK l e fun vs => k (v, vs)
theorem getSK_eq {n : Nat} {e : Sl} {env : List AV} (hE : SlE n e env) : ∀ (L : List Nat) (k : Tup L → Prop), getSK L e k = k (getT L env)
  | [], k => rfl
  | t :: l, k => by
    unfold getSK
    rw [sgetK_eq, getSK_eq hE l, hE.get]; rfl
theorem sget_mk : ∀ (L : List Nat) (v : Tup L) (t : Nat), t ∉ L → sget (mkS L v) t = .junk
  | [], _, _, _ => rfl
  | x :: l, v, t, h => by
    unfold mkS
    rw [sget_cons, if_neg (fun q => h (by rw [q]; exact List.mem_cons_self)), sget_mk l v.2 t fun q => h (List.mem_cons_of_mem _ q)]
theorem mkS_get : ∀ (n i : Nat) (L : List Nat) (v : Tup L), L.Pairwise (· < ·) → (∀ x, x ∈ L → i ≤ x ∧ x < i + n) → ∀ j, sget (mkS L v) (i + j) = lget .junk (mkEnv n i L v) j
  | 0, i, L, v, hp, hr, j => by
    cases L with
    | nil => rfl
    | cons t l => have := hr t List.mem_cons_self; omega
  | n + 1, i, [], v, hp, hr, j => by
    cases j with
    | zero => rfl
    | succ j =>
      show AV.junk = lget .junk (mkEnv n (i + 1) [] v) j
      rw [← mkS_get n (i + 1) [] v .nil (fun _ h => by cases h) j]; rfl
  | n + 1, i, t :: l, v, hp, hr, j => by
    have hp' := List.pairwise_cons.1 hp
    have ht := hr t List.mem_cons_self
    unfold mkEnv
    cases hb : Nat.beq i t with
    | true =>
      rw [Nat.beq_eq] at hb; subst hb
      cases j with
      | zero => unfold mkS; rw [sget_cons, if_pos (by omega)]; rfl
      | succ j =>
        show _ = lget .junk (mkEnv n (i + 1) l v.2) j
        rw [← mkS_get n (i + 1) l v.2 hp'.2 (fun x hx => ?_) j]
        · show sget (.cons i v.1 (mkS l v.2)) (i + (j + 1)) = _
          rw [sget_cons, if_neg (by omega), (by omega : i + (j + 1) = i + 1 + j)]
        · have := hr x (List.mem_cons_of_mem _ hx); have := hp'.1 x hx; omega
    | false =>
      have hne : i ≠ t := fun e => by rw [← Nat.beq_eq, hb] at e; cases e
      cases j with
      | zero =>
        show _ = AV.junk
        refine sget_mk _ _ _ fun hm => ?_
        rcases List.mem_cons.1 hm with e | hm
        · omega
        · have := hp'.1 _ hm; omega
      | succ j =>
        show _ = lget .junk (mkEnv n (i + 1) (t :: l) v) j
        rw [← mkS_get n (i + 1) (t :: l) v hp (fun x hx => ?_) j, (by omega : i + (j + 1) = i + 1 + j)]
        have h1 := hr x hx
        rcases List.mem_cons.1 hx with e | hm
        · omega
        · have := hp'.1 _ hm; omega
theorem live_rise (n : Nat) (L : List Nat) : (live n L).Pairwise (· < ·) := List.Pairwise.filter _ List.pairwise_lt_range
theorem live_lt {n x : Nat} {L : List Nat} (h : x ∈ live n L) : x < n := List.mem_range.1 (List.mem_filter.1 h).1
theorem mkS_eq (n : Nat) (L : List Nat) (v : Tup (live n L)) : SlE n (mkS (live n L) v) (mkEnv n 0 (live n L) v) :=
  ⟨mkEnv_len n 0 _ v, fun t => by rw [← mkS_get n 0 (live n L) v (live_rise n L) (fun x hx => ⟨Nat.zero_le _, by have := live_lt hx; omega⟩) t, Nat.zero_add]⟩

noncomputable def hasF (l : List Nat) (x : Nat) : Bool := List.rec (motive := fun _ => Bool) false (fun a _ ih => Bool.rec (motive := fun _ => Bool) ih true (Nat.beq x a)) l
theorem hasF_eq : ∀ (l : List Nat) (x : Nat), hasF l x = l.contains x
  | [], _ => rfl
  | a :: l, x => by
    show (Bool.rec (motive := fun _ => Bool) (hasF l x) true (Nat.beq x a)) = _
    rw [List.contains_cons, hasF_eq l x]
    cases h : Nat.beq x a with
    | true => rw [Nat.beq_eq] at h; subst h; simp
    | false =>
      have : (x == a) = false := by rw [beq_eq_false_iff_ne]; intro e; rw [← Nat.beq_eq, h] at e; cases e
      rw [this]; rfl
noncomputable def addF (x : Nat) (l : List Nat) : List Nat := Bool.rec (motive := fun _ => List Nat) (x :: l) l (hasF l x)
theorem addF_eq (x : Nat) (l : List Nat) : addF x l = addL x l := by
  unfold addF addL
  rw [hasF_eq]
  cases l.contains x <;> rfl
noncomputable def unionF (a b : List Nat) : List Nat := List.rec (motive := fun _ => List Nat) b (fun x _ ih => addF x ih) a
theorem unionF_eq (b : List Nat) : ∀ a : List Nat, unionF a b = unionL a b
  | [] => rfl
  | x :: a => by
    show addF x (unionF a b) = addL x (unionL a b)
    rw [addF_eq, unionF_eq b a]
noncomputable def lessF (d : Option Nat) (acc : List Nat) : List Nat :=
  match d with
  | some d => List.rec (motive := fun _ => List Nat) [] (fun x _ ih => Bool.rec (motive := fun _ => List Nat) (x :: ih) ih (Nat.beq x d)) acc
  | none => acc
theorem lessF_eq (d : Option Nat) : ∀ acc : List Nat, lessF d acc = lessO d acc := by
  intro acc
  cases d with
  | none => rfl
  | some d =>
    induction acc with
    | nil => rfl
    | cons x l ih =>
      show (Bool.rec (motive := fun _ => List Nat) (x :: lessF (some d) l) (lessF (some d) l) (Nat.beq x d)) = List.filter (fun x => !(Nat.beq x d)) (x :: l)
      rw [List.filter_cons, ih]
      cases Nat.beq x d <;> rfl
noncomputable def readsOF (x : Operand) (acc : List Nat) : List Nat :=
  match x with
  | .tmp t => addF t acc
  | _ => acc
theorem readsOF_eq : readsOF = readsO := by
  funext x acc
  cases x <;> first | rfl | exact addF_eq _ _
noncomputable def guardRdF (ops : List Oper) (o : Oper) (acc : List Nat) : List Nat :=
  match o.guard with
  | some (j, _) => match ops[j]? with
    | some oj => match oj.dst with
      | some d => addF d acc
      | none => acc
    | none => acc
  | none => acc
theorem guardRdF_eq : guardRdF = guardRd := by
  funext ops o acc
  unfold guardRdF guardRd
  simp only [addF_eq]
  rfl
noncomputable def readsRF (all ops : List Oper) (acc : List Nat) : List Nat := List.rec (motive := fun _ => List Nat) acc (fun o _ ih => guardRdF all o (o.op.operands.toList.foldr readsOF (lessF o.dst ih))) ops
theorem readsRF_eq (all : List Oper) (acc : List Nat) : ∀ ops : List Oper, readsRF all ops acc = readsR all ops acc
  | [] => rfl
  | o :: l => by
    show guardRdF all o (o.op.operands.toList.foldr readsOF (lessF o.dst (readsRF all l acc))) = guardRd all o (o.op.operands.toList.foldr readsO (lessO o.dst (readsR all l acc)))
    rw [guardRdF_eq, readsOF_eq, lessF_eq, readsRF_eq all acc l]
noncomputable def readsF : Code → Lv → List Nat
  | .region _ ops _, L => readsRF ops.toList ops.toList L.norm
  | .seq a b, L => readsF a ⟨readsF b L, L.ex, L.ret⟩
  | .cond c a b, L => readsOF c (unionF (readsF a L) (readsF b L))
  | .block id b, L => readsF b ⟨L.norm, (id, L.norm) :: L.ex, L.ret⟩
  | .loop b, L => readsF b ⟨[], L.ex, L.ret⟩
  | .scope b, L => readsF b L
  | .rangeFunc f _ a b, L => readsOF f (unionF (readsF a ⟨readsF b ⟨[], L.ex, L.ret⟩, L.ex, L.ret⟩) (L.ex.foldr (fun p acc => unionF p.2 acc) (unionF L.ret L.norm)))
  | .skip, L => L.norm
  | .label _, L => L.norm
  | .ret, L => L.ret
  | .exit i, L => atExit i L.ex
  | _, _ => []
theorem readsF_eq (c : Code) : ∀ L : Lv, readsF c L = reads c L := by
  induction c with
  | region id ops draw => intro L; exact readsRF_eq _ _ _
  | seq a b iha ihb => intro L; show readsF a ⟨readsF b L, L.ex, L.ret⟩ = reads a ⟨reads b L, L.ex, L.ret⟩; rw [ihb, iha]
  | cond c a b iha ihb => intro L; show readsOF c (unionF (readsF a L) (readsF b L)) = readsO c (unionL (reads a L) (reads b L)); rw [readsOF_eq, unionF_eq, iha, ihb]
  | block id b ih => intro L; exact ih _
  | loop b ih => intro L; exact ih _
  | scope b ih => intro L; exact ih _
  | rangeFunc f ps a b iha ihb =>
    intro L
    show readsOF f (unionF (readsF a ⟨readsF b ⟨[], L.ex, L.ret⟩, L.ex, L.ret⟩) (L.ex.foldr (fun p acc => unionF p.2 acc) (unionF L.ret L.norm))) = readsO f (unionL (reads a ⟨reads b ⟨[], L.ex, L.ret⟩, L.ex, L.ret⟩) (L.ex.foldr (fun p acc => unionL p.2 acc) (unionL L.ret L.norm)))
    have e : (fun (p : Nat × List Nat) acc => unionF p.2 acc) = fun p acc => unionL p.2 acc := by funext p acc; exact unionF_eq _ _
    rw [readsOF_eq, unionF_eq, unionF_eq, e, ihb, iha]
  | _ => intro L; rfl
noncomputable def insF (x : Nat) (l : List Nat) : List Nat := List.rec (motive := fun _ => List Nat) [x] (fun a t ih => Bool.rec (motive := fun _ => List Nat) (Bool.rec (motive := fun _ => List Nat) (a :: ih) (a :: t) (Nat.beq x a)) (x :: a :: t) (Nat.blt x a)) l
theorem insF_cons (x a : Nat) (t : List Nat) : insF x (a :: t) = if x < a then x :: a :: t else if x = a then a :: t else a :: insF x t := by
  show (Bool.rec (motive := fun _ => List Nat) (Bool.rec (motive := fun _ => List Nat) (a :: insF x t) (a :: t) (Nat.beq x a)) (x :: a :: t) (Nat.blt x a)) = _
  cases h : Nat.blt x a with
  | true => rw [blt_iff] at h; rw [if_pos h]
  | false =>
    have hn : ¬ x < a := fun q => by rw [← blt_iff, h] at q; cases q
    rw [if_neg hn]
    cases h2 : Nat.beq x a with
    | true => rw [Nat.beq_eq] at h2; rw [if_pos h2]
    | false => rw [if_neg (by intro e; rw [← Nat.beq_eq, h2] at e; cases e)]
theorem mem_insF {x y : Nat} : ∀ {l : List Nat}, y ∈ insF x l ↔ y = x ∨ y ∈ l
  | [] => by show y ∈ [x] ↔ _; simp
  | a :: t => by
    rw [insF_cons]
    split
    · simp
    · split
      · rename_i h; subst h; simp
      · rw [List.mem_cons, List.mem_cons, mem_insF (l := t)]
        constructor
        · rintro (h | h | h)
          · exact .inr (.inl h)
          · exact .inl h
          · exact .inr (.inr h)
        · rintro (h | h | h)
          · exact .inr (.inl h)
          · exact .inl h
          · exact .inr (.inr h)
theorem rise_insF {x : Nat} : ∀ {l : List Nat}, l.Pairwise (· < ·) → (insF x l).Pairwise (· < ·)
  | [], _ => by show [x].Pairwise _; simp
  | a :: t, h => by
    have h' := List.pairwise_cons.1 h
    rw [insF_cons]
    split
    · rename_i hx
      refine List.pairwise_cons.2 ⟨fun y hy => ?_, h⟩
      rcases List.mem_cons.1 hy with e | hy
      · omega
      · have := h'.1 y hy; omega
    · split
      · exact h
      · refine List.pairwise_cons.2 ⟨fun y hy => ?_, rise_insF h'.2⟩
        rcases mem_insF.1 hy with e | hy
        · omega
        · exact h'.1 y hy
noncomputable def liveF (n : Nat) (L : List Nat) : List Nat := List.rec (motive := fun _ => List Nat) [] (fun x _ ih => Bool.rec (motive := fun _ => List Nat) ih (insF x ih) (Nat.blt x n)) L
theorem liveF_cons (n x : Nat) (L : List Nat) : liveF n (x :: L) = if x < n then insF x (liveF n L) else liveF n L := by
  show (Bool.rec (motive := fun _ => List Nat) (liveF n L) (insF x (liveF n L)) (Nat.blt x n)) = _
  cases h : Nat.blt x n with
  | true => rw [blt_iff] at h; rw [if_pos h]
  | false => rw [if_neg (fun q => by rw [← blt_iff, h] at q; cases q)]
theorem mem_liveF {n y : Nat} : ∀ {L : List Nat}, y ∈ liveF n L ↔ y < n ∧ y ∈ L
  | [] => by show y ∈ ([] : List Nat) ↔ _; simp
  | x :: L => by
    rw [liveF_cons]
    split
    · rw [mem_insF, mem_liveF (L := L), List.mem_cons]
      constructor
      · rintro (rfl | ⟨h1, h2⟩)
        · exact ⟨by assumption, .inl rfl⟩
        · exact ⟨h1, .inr h2⟩
      · rintro ⟨h1, h2 | h2⟩
        · exact .inl h2
        · exact .inr ⟨h1, h2⟩
    · rw [mem_liveF (L := L), List.mem_cons]
      constructor
      · rintro ⟨h1, h2⟩; exact ⟨h1, .inr h2⟩
      · rintro ⟨h1, h2 | h2⟩
        · omega
        · exact ⟨h1, h2⟩
theorem rise_liveF {n : Nat} : ∀ {L : List Nat}, (liveF n L).Pairwise (· < ·)
  | [] => .nil
  | x :: L => by
    rw [liveF_cons]
    split
    · exact rise_insF rise_liveF
    · exact rise_liveF
theorem rise_eq : ∀ {a b : List Nat}, a.Pairwise (· < ·) → b.Pairwise (· < ·) → (∀ x, x ∈ a ↔ x ∈ b) → a = b
  | [], [], _, _, _ => rfl
  | [], y :: b, _, _, h => by have := (h y).2 List.mem_cons_self; cases this
  | x :: a, [], _, _, h => by have := (h x).1 List.mem_cons_self; cases this
  | x :: a, y :: b, ha, hb, h => by
    have ha' := List.pairwise_cons.1 ha
    have hb' := List.pairwise_cons.1 hb
    have e : x = y := by
      rcases List.mem_cons.1 ((h x).1 List.mem_cons_self) with e | h1
      · exact e
      · rcases List.mem_cons.1 ((h y).2 List.mem_cons_self) with e | h2
        · exact e.symm
        · have := ha'.1 y h2; have := hb'.1 x h1; omega
    subst e
    rw [rise_eq ha'.2 hb'.2 fun z => ?_]
    constructor
    · intro hz
      rcases List.mem_cons.1 ((h z).1 (List.mem_cons_of_mem _ hz)) with e | h1
      · have := ha'.1 z hz; omega
      · exact h1
    · intro hz
      rcases List.mem_cons.1 ((h z).2 (List.mem_cons_of_mem _ hz)) with e | h1
      · have := hb'.1 z hz; omega
      · exact h1
theorem liveF_eq (n : Nat) (L : List Nat) : liveF n L = live n L := by
  refine rise_eq rise_liveF (live_rise n L) fun x => ?_
  rw [mem_liveF]
  unfold live
  rw [List.mem_filter, List.mem_range, List.contains_iff_mem]

structure KsS where
  norm : Sl → List Dfr → H → Prop
  exit : Nat → Sl → List Dfr → H → Prop
  ret : Sl → List Dfr → H → Prop
structure KsE (n : Nat) (K' : KsS) (K : Ks) : Prop where
  norm : ∀ e env ds h, SlE n e env → K'.norm e ds h = K.norm env ds h
  exit : ∀ i e env ds h, SlE n e env → K'.exit i e ds h = K.exit i env ds h
  ret : ∀ e env ds h, SlE n e env → K'.ret e ds h = K.ret env ds h
noncomputable def toL (e : Sl) : Nat → Nat → List AV
  | 0, _ => []
  | n + 1, i => sget e i :: toL e n (i + 1)
theorem toL_get (e : Sl) : ∀ (n i j : Nat), (toL e n i)[j]? = if j < n then some (sget e (i + j)) else none
  | 0, i, j => rfl
  | n + 1, i, 0 => by rw [if_pos (by omega)]; rfl
  | n + 1, i, j + 1 => by
    show (toL e n (i + 1))[j]? = _
    rw [toL_get e n (i + 1) j]
    by_cases hj : j < n
    · rw [if_pos hj, if_pos (by omega), (by omega : i + 1 + j = i + (j + 1))]
    · rw [if_neg hj, if_neg (by omega)]
theorem toL_eq {n : Nat} {e : Sl} {env : List AV} (h : SlE n e env) : toL e n 0 = env := by
  apply List.ext_getElem?
  intro j
  rw [toL_get, h.get, lget_eq, Nat.zero_add, ← h.len]
  by_cases hj : j < env.length
  · rw [if_pos hj, List.getElem?_eq_getElem hj, List.getD_eq_getElem?_getD, List.getElem?_eq_getElem hj]; rfl
  · rw [if_neg hj, List.getElem?_eq_none (by omega)]
noncomputable def endRangeS (id0 id1 : Nat) (K : KsS) (e : Sl) (ds : List Dfr) (h : H) : Prop :=
  match h.get id1 with
  | .loop .busy _ _ _ _ _ => False
  | .loop _ pend _ _ _ _ => setLoop id1 .exhausted pend h fun h' => match pend with
    | none => K.norm e (.coll id0 :: ds) h'
    | some .ret => K.ret e (.coll id0 :: ds) h'
    | some (.exit i) => K.exit i e (.coll id0 :: ds) h'
    | _ => False
  | _ => False
theorem endRangeS_eq {n : Nat} {K' : KsS} {K : Ks} (hK : KsE n K' K) {e : Sl} {env : List AV} (hE : SlE n e env) (id0 id1 : Nat) (ds : List Dfr) (h : H) : endRangeS id0 id1 K' e ds h = endRange id0 id1 K env ds h := by
  unfold endRangeS endRange
  simp only [hK.norm _ _ _ _ hE, hK.ret _ _ _ _ hE, hK.exit _ _ _ _ _ hE]
  rfl
/-- the slots that live on: told by rd -/
noncomputable def liveR (lv : Nat → List Nat → List Nat) (rd : Code → Lv → List Nat) (n : Nat) (b : Code) (L : Lv) : List Nat := lv n (rd b L)
noncomputable def denR' (lv : Nat → List Nat → List Nat) (rd : Code → Lv → List Nat) (X : Ty → Gam → Nat → Op → (Operand → AV) → H → (AV → H → Prop) → Prop) (T : Ty) (G : Gam) (top : Bool) (n : Nat) (c : Code) : Lv → KsS → Sl → List Dfr → H → Prop :=
  Code.rec (motive := fun _ => Lv → KsS → Sl → List Dfr → H → Prop)
    (fun _ K e ds h => K.norm e ds h)
    (fun _ ops draw _ K e ds h => match draw with
      | false => runSeqS X T G top n ops.toList ops.toList e ds h K.norm
      | true => match orderOk T ops.toList (masks ops.toList []) (order T ops.toList) with
        | true => runOrdS X T G n ops.toList (masks ops.toList []) (order T ops.toList) [] e h fun _ e h => K.norm e ds h
        | false => match two T ops.toList with
          | some (i, j, C, p, q) => runOrdS X T G n (addE i j ops.toList) (masks (addE i j ops.toList) []) C [] e h fun seen e h => asPtr (evS e p) fun a _ => asPtr (evS e q) fun b _ => ck (Bool.not (Nat.beq a b))
            (runOrdS X T G n (addE j i ops.toList) (masks (addE j i ops.toList) []) [j, i] seen e h fun _ _ _ => runOrdS X T G n (addE i j ops.toList) (masks (addE i j ops.toList) []) [i, j] seen e h fun _ e h => K.norm e ds h)
          | none => False)
    (fun a b iha ihb L K e ds h => match Nat.ble (ends a) 1 with
      | true => iha ⟨rd b L, L.ex, L.ret⟩ ⟨ihb L K, K.exit, K.ret⟩ e ds h
      | false => G.J.jd (α := Tup (liveR lv rd n b L)) (fun v => ihb L K (mkS (liveR lv rd n b L) v)) fun j => iha ⟨rd b L, L.ex, L.ret⟩ ⟨fun e ds h => getSK (liveR lv rd n b L) e fun v => j v ds h, K.exit, K.ret⟩ e ds h)
    (fun c _ _ iha ihb L K e ds h => asB (evS e c) fun c => br c (iha L K e ds h) (ihb L K e ds h))
    (fun id _ ihb L K e ds h => ihb ⟨L.norm, (id, L.norm) :: L.ex, L.ret⟩ ⟨K.norm, fun i e => match Nat.beq i id with
      | true => K.norm e
      | false => K.exit i e, K.ret⟩ e ds h)
    (fun b ihb L K e ds h => getSK (liveR lv rd n b ⟨[], L.ex, L.ret⟩) e fun v => G.J.lp (α := Tup (liveR lv rd n b ⟨[], L.ex, L.ret⟩)) (fun self v => ihb ⟨rd b ⟨[], L.ex, L.ret⟩, L.ex, L.ret⟩ ⟨fun e ds h => getSK (liveR lv rd n b ⟨[], L.ex, L.ret⟩) e fun v => self v ds h, K.exit, K.ret⟩ (mkS (liveR lv rd n b ⟨[], L.ex, L.ret⟩) v)) v ds h)
    (fun g ps a b _ _ _ K e ds h => match top with
      | true => match evS e g with
        | .func (.func f) first captured => pushK (.defd true) h fun id0 h => pushK (.loop .ready none ps.toList a b (toL e n 0)) h fun id1 h => G.it f (first ++ (AV.yield id1 :: captured)) h fun _ h => endRangeS id0 id1 K e ds h
        | _ => False
      | false => False)
    (fun id _ K e ds h => K.exit id e ds h)
    (fun _ ihb L K e ds h => ihb L K e ds h)
    (fun _ _ K e ds h => K.norm e ds h)
    (fun _ _ _ _ _ _ => False)
    (fun _ K e ds h => K.ret e ds h)
    (fun _ _ _ _ _ _ => False) c
theorem denR'_eq (T : Ty) (G : Gam) (top : Bool) (n : Nat) (c : Code) : ∀ (L : Lv) (K' : KsS) (K : Ks), KsE n K' K → ∀ (e : Sl) (env : List AV) (ds : List Dfr) (h : H), SlE n e env → denR' live reads opF T G top n c L K' e ds h = den T G top n c L K env ds h := by
  induction c with
  | skip => intro L K' K hK e env ds h hE; exact hK.norm _ _ _ _ hE
  | label l => intro L K' K hK e env ds h hE; exact hK.norm _ _ _ _ hE
  | ret => intro L K' K hK e env ds h hE; exact hK.ret _ _ _ _ hE
  | exit id => intro L K' K hK e env ds h hE; exact hK.exit _ _ _ _ _ hE
  | goto l => intro L K' K hK e env ds h hE; rfl
  | refuse w => intro L K' K hK e env ds h hE; rfl
  | scope b ih => intro L K' K hK e env ds h hE; exact ih L K' K hK e env ds h hE
  | region id ops draw =>
    intro L K' K hK e env ds h hE
    cases draw with
    | false => exact runSeqS_eq T G top n _ _ e env ds h _ _ hE hK.norm
    | true =>
      show (match orderOk T ops.toList (masks ops.toList []) (order T ops.toList) with
        | true => runOrdS opF T G n ops.toList (masks ops.toList []) (order T ops.toList) [] e h fun _ e h => K'.norm e ds h
        | false => match two T ops.toList with
          | some (i, j, C, p, q) => runOrdS opF T G n (addE i j ops.toList) (masks (addE i j ops.toList) []) C [] e h fun seen e h => asPtr (evS e p) fun a _ => asPtr (evS e q) fun b _ => ck (Bool.not (Nat.beq a b))
            (runOrdS opF T G n (addE j i ops.toList) (masks (addE j i ops.toList) []) [j, i] seen e h fun _ _ _ => runOrdS opF T G n (addE i j ops.toList) (masks (addE i j ops.toList) []) [i, j] seen e h fun _ e h => K'.norm e ds h)
          | none => False) = (match orderOk T ops.toList (masks ops.toList []) (order T ops.toList) with
        | true => runOrd T G ops.toList (masks ops.toList []) (order T ops.toList) [] env h fun _ env h => K.norm env ds h
        | false => match two T ops.toList with
          | some (i, j, C, p, q) => runOrd T G (addE i j ops.toList) (masks (addE i j ops.toList) []) C [] env h fun seen env h => asPtr (ev env p) fun a _ => asPtr (ev env q) fun b _ => ck (Bool.not (Nat.beq a b))
            (runOrd T G (addE j i ops.toList) (masks (addE j i ops.toList) []) [j, i] seen env h fun _ _ _ => runOrd T G (addE i j ops.toList) (masks (addE i j ops.toList) []) [i, j] seen env h fun _ env h => K.norm env ds h)
          | none => False)
      cases orderOk T ops.toList (masks ops.toList []) (order T ops.toList) with
      | true => exact runOrdS_eq T G n _ _ _ [] [] e env h _ _ .nil hE fun _ _ e env h _ hE => hK.norm _ _ _ _ hE
      | false =>
        cases two T ops.toList with
        | none => rfl
        | some z =>
          obtain ⟨i, j, C, p, q⟩ := z
          refine runOrdS_eq T G n _ _ _ [] [] e env h _ _ .nil hE fun s s' e env h hs hE => ?_
          rw [evS_eq hE]
          congr 1; funext a _; congr 1; funext b _; congr 1
          exact runOrdS_eq T G n _ _ _ s s' e env h _ _ hs hE fun _ _ _ _ _ _ _ => runOrdS_eq T G n _ _ _ s s' e env h _ _ hs hE fun _ _ e env h _ hE => hK.norm _ _ _ _ hE
  | seq a b iha ihb =>
    intro L K' K hK e env ds h hE
    show (match Nat.ble (ends a) 1 with
      | true => denR' live reads opF T G top n a ⟨reads b L, L.ex, L.ret⟩ ⟨denR' live reads opF T G top n b L K', K'.exit, K'.ret⟩ e ds h
      | false => G.J.jd (α := Tup (liveR live reads n b L)) (fun v => denR' live reads opF T G top n b L K' (mkS (liveR live reads n b L) v)) fun j => denR' live reads opF T G top n a ⟨reads b L, L.ex, L.ret⟩ ⟨fun e ds h => getSK (liveR live reads n b L) e fun v => j v ds h, K'.exit, K'.ret⟩ e ds h) = (match Nat.ble (ends a) 1 with
      | true => den T G top n a ⟨reads b L, L.ex, L.ret⟩ ⟨den T G top n b L K, K.exit, K.ret⟩ env ds h
      | false => G.J.jd (α := Tup (liveR live reads n b L)) (fun v => den T G top n b L K (mkEnv n 0 (liveR live reads n b L) v)) fun j => den T G top n a ⟨reads b L, L.ex, L.ret⟩ ⟨fun e => j (getT (liveR live reads n b L) e), K.exit, K.ret⟩ env ds h)
    cases Nat.ble (ends a) 1 with
    | true => exact iha ⟨reads b L, L.ex, L.ret⟩ ⟨denR' live reads opF T G top n b L K', K'.exit, K'.ret⟩ ⟨den T G top n b L K, K.exit, K.ret⟩ ⟨fun e env ds h hE => ihb L K' K hK e env ds h hE, hK.exit, hK.ret⟩ e env ds h hE
    | false =>
      show G.J.jd _ _ = G.J.jd _ _
      congr 1
      · funext v ds h; exact ihb L K' K hK _ _ ds h (mkS_eq n _ v)
      · funext j; exact iha ⟨reads b L, L.ex, L.ret⟩ ⟨fun e ds h => getSK (liveR live reads n b L) e fun v => j v ds h, K'.exit, K'.ret⟩ ⟨fun e => j (getT (liveR live reads n b L) e), K.exit, K.ret⟩ ⟨fun e env ds h hE => getSK_eq hE _ _, hK.exit, hK.ret⟩ e env ds h hE
  | cond c a b iha ihb =>
    intro L K' K hK e env ds h hE
    show asB (evS e c) (fun c => br c (denR' live reads opF T G top n a L K' e ds h) (denR' live reads opF T G top n b L K' e ds h)) = asB (ev env c) (fun c => br c (den T G top n a L K env ds h) (den T G top n b L K env ds h))
    rw [evS_eq hE, iha L K' K hK e env ds h hE, ihb L K' K hK e env ds h hE]
  | block id b ih =>
    intro L K' K hK e env ds h hE
    refine ih ⟨L.norm, (id, L.norm) :: L.ex, L.ret⟩ ⟨K'.norm, fun i e => match Nat.beq i id with
      | true => K'.norm e
      | false => K'.exit i e, K'.ret⟩ ⟨K.norm, fun i e => match Nat.beq i id with
      | true => K.norm e
      | false => K.exit i e, K.ret⟩ ⟨hK.norm, fun i e env ds h hE => ?_, hK.ret⟩ e env ds h hE
    show (match Nat.beq i id with
      | true => K'.norm e
      | false => K'.exit i e) ds h = (match Nat.beq i id with
      | true => K.norm env
      | false => K.exit i env) ds h
    cases Nat.beq i id with
    | true => exact hK.norm _ _ _ _ hE
    | false => exact hK.exit _ _ _ _ _ hE
  | loop b ih =>
    intro L K' K hK e env ds h hE
    show getSK (liveR live reads n b ⟨[], L.ex, L.ret⟩) e (fun v => G.J.lp (α := Tup (liveR live reads n b ⟨[], L.ex, L.ret⟩)) (fun self v => denR' live reads opF T G top n b ⟨reads b ⟨[], L.ex, L.ret⟩, L.ex, L.ret⟩ ⟨fun e ds h => getSK (liveR live reads n b ⟨[], L.ex, L.ret⟩) e fun v => self v ds h, K'.exit, K'.ret⟩ (mkS (liveR live reads n b ⟨[], L.ex, L.ret⟩) v)) v ds h)
      = G.J.lp (α := Tup (liveR live reads n b ⟨[], L.ex, L.ret⟩)) (fun self v => den T G top n b ⟨reads b ⟨[], L.ex, L.ret⟩, L.ex, L.ret⟩ ⟨fun e => self (getT (liveR live reads n b ⟨[], L.ex, L.ret⟩) e), K.exit, K.ret⟩ (mkEnv n 0 (liveR live reads n b ⟨[], L.ex, L.ret⟩) v)) (getT (liveR live reads n b ⟨[], L.ex, L.ret⟩) env) ds h
    rw [getSK_eq hE]
    congr 1
    funext self v ds h
    exact ih ⟨reads b ⟨[], L.ex, L.ret⟩, L.ex, L.ret⟩ ⟨fun e ds h => getSK (liveR live reads n b ⟨[], L.ex, L.ret⟩) e fun v => self v ds h, K'.exit, K'.ret⟩ ⟨fun e => self (getT (liveR live reads n b ⟨[], L.ex, L.ret⟩) e), K.exit, K.ret⟩ ⟨fun e env ds h hE => getSK_eq hE _ _, hK.exit, hK.ret⟩ _ _ ds h (mkS_eq n _ v)
  | rangeFunc g ps a b iha ihb =>
    intro L K' K hK e env ds h hE
    cases top with
    | false => rfl
    | true =>
      show (match evS e g with
        | .func (.func f) first captured => pushK (.defd true) h fun id0 h => pushK (.loop .ready none ps.toList a b (toL e n 0)) h fun id1 h => G.it f (first ++ (AV.yield id1 :: captured)) h fun _ h => endRangeS id0 id1 K' e ds h
        | _ => False) = (match ev env g with
        | .func (.func f) first captured => pushK (.defd true) h fun id0 h => pushK (.loop .ready none ps.toList a b env) h fun id1 h => G.it f (first ++ (AV.yield id1 :: captured)) h fun _ h => endRange id0 id1 K env ds h
        | _ => False)
      rw [evS_eq hE, toL_eq hE]
      split
      · congr 1; funext id0 h; congr 1; funext id1 h; congr 1; funext r h; exact endRangeS_eq hK hE id0 id1 ds h
      · rfl
/-- the same, which slots live on reckoned quickly -/
noncomputable def denS (T : Ty) (G : Gam) (top : Bool) (n : Nat) (c : Code) : Lv → KsS → Sl → List Dfr → H → Prop := denR' liveF readsF opQ T G top n c
theorem denS_eq (T : Ty) (G : Gam) (top : Bool) (n : Nat) (c : Code) (L : Lv) (K' : KsS) (K : Ks) (hK : KsE n K' K) (e : Sl) (env : List AV) (ds : List Dfr) (h : H) (hE : SlE n e env) : denS T G top n c L K' e ds h = den T G top n c L K env ds h := by
  have e1 : liveF = live := by funext n L; exact liveF_eq n L
  have e2 : readsF = reads := by funext c L; exact readsF_eq c L
  unfold denS
  rw [e1, e2, opQ_eq]
  exact denR'_eq T G top n c L K' K hK e env ds h hE
noncomputable def resS (T : Ty) (e : Sl) (h : H) : List ResultVar → List Nat → (List AV → Prop) → Prop
  | [], _, k => k []
  | r :: l, ts, k => match r, ts with
    | .tmp t, ty :: ts => castK (T ty).kd (sget e t) fun v => resS T e h l ts fun vs => k (v :: vs)
    | .cell a t, _ => ldK T t (sget e a) h fun v => resS T e h l ts.tail fun vs => k (v :: vs)
    | _, _ => False
theorem resS_eq {n : Nat} {e : Sl} {env : List AV} (hE : SlE n e env) (T : Ty) (h : H) : ∀ (l : List ResultVar) (ts : List Nat) (k : List AV → Prop), resS T e h l ts k = resK T env h l ts k
  | [], _, _ => rfl
  | r :: l, ts, k => by
    have ih := resS_eq hE T h l
    cases r with
    | tmp t =>
      cases ts with
      | nil => rfl
      | cons ty ts =>
        simp only [resS, resK, hE.get, ih]
    | cell a t =>
      simp only [resS, resK, hE.get, ih]
noncomputable def resultsS (T : Ty) (rs : List ResultVar) (ts : List Nat) (e : Sl) (h : H) (k : AV → H → Prop) : Prop :=
  resS T e h rs ts fun vs => match vs with
    | [v] => k v h
    | vs => k (.tuple vs) h
noncomputable def argsS : Nat → List AV → Sl
  | _, [] => .nil
  | i, a :: l => .cons i a (argsS (i + 1) l)
theorem argsS_get : ∀ (l : List AV) (i j : Nat), sget (argsS i l) (i + j) = l.getD j .junk
  | [], _, _ => rfl
  | a :: l, i, 0 => by unfold argsS; rw [sget_cons, if_pos (by omega)]; rfl
  | a :: l, i, j + 1 => by
    unfold argsS
    rw [sget_cons, if_neg (by omega), (by omega : i + (j + 1) = i + 1 + j), argsS_get l (i + 1) j]; simp
theorem argsS_eq {n : Nat} {l : List AV} (h : l.length ≤ n) : SlE n (argsS 0 l) (padTo n l) := by
  refine ⟨by rw [padTo_eq n l h]; simp; omega, fun t => ?_⟩
  rw [lget_eq, padTo_eq n l h, ← Nat.zero_add t, argsS_get l 0 t, Nat.zero_add]
  by_cases ht : t < l.length
  · simp [List.getD_eq_getElem?_getD, List.getElem?_append_left ht, ht]
  · rw [List.getD_eq_getElem?_getD, List.getD_eq_getElem?_getD, List.getElem?_append_right (by omega), List.getElem?_replicate, List.getElem?_eq_none (by omega)]
    split <;> rfl
/-- a function's body, from its arguments on -/
noncomputable def denFS (T : Ty) (G : Gam) (f : Func) : Fun := fun args h k =>
  match f.body, Nat.ble args.length f.ntmps with
  | some c, true => denS T G true f.ntmps c ⟨resSlots f.results.toList, [], resSlots f.results.toList⟩ ⟨fun e ds h => leaveK G ds h fun h => resultsS T f.results.toList f.resultTypes.toList e h k, fun _ _ _ _ => False, fun e ds h => leaveK G ds h fun h => resultsS T f.results.toList f.resultTypes.toList e h k⟩ (argsS 0 args) [] h
  | _, _ => False
theorem denFS_eq (T : Ty) (G : Gam) (f : Func) : denFS T G f = denF T G f := by
  funext args h k
  have hr : ∀ (e : Sl) (env : List AV) (ds : List Dfr) (h : H), SlE f.ntmps e env → (leaveK G ds h fun h => resultsS T f.results.toList f.resultTypes.toList e h k) = (leaveK G ds h fun h => resultsK T f.results.toList f.resultTypes.toList env h k) := fun e env ds h hE => by
    congr 1; funext h; exact resS_eq hE T h _ _ _
  unfold denFS denF
  cases f.body with
  | none => rfl
  | some c =>
    cases hn : Nat.ble args.length f.ntmps with
    | false => rfl
    | true =>
      exact denS_eq T G true f.ntmps c ⟨resSlots f.results.toList, [], resSlots f.results.toList⟩ ⟨fun e ds h => leaveK G ds h fun h => resultsS T f.results.toList f.resultTypes.toList e h k, fun _ _ _ _ => False, fun e ds h => leaveK G ds h fun h => resultsS T f.results.toList f.resultTypes.toList e h k⟩ ⟨fun env ds h => leaveK G ds h fun h => resultsK T f.results.toList f.resultTypes.toList env h k, fun _ _ _ _ => False, fun env ds h => leaveK G ds h fun h => resultsK T f.results.toList f.resultTypes.toList env h k⟩ ⟨hr, fun _ _ _ _ _ _ => rfl, hr⟩ _ _ [] h (argsS_eq ((ble_iff _ _).1 hn))
theorem fun_okS {P : Program} {T : Ty} (hT : TyOk P T) (hm : P.follows .mixedOrders = true) {G : Gam} (hG : GamOk P G) {f : FuncId} {fn : Func} (hf : P.funcs[f]? = some fn) (hcall : ∀ args w, (callFunc f args).run P w = .ok (.enter f args) w) : FunOk P f (denFS T G fn) := by
  rw [denFS_eq]; exact fun_ok hT hm hG hf hcall
end Go.Am

/- Plain reasoning about what is printed: heaps that grow, rows of bytes, loops. No condition. -/
namespace Go.Am
open Go
/-- h' is as h below place n -/
structure Low (n : Nat) (h h' : H) : Prop where
  base : h'.base = h.base
  next : h.next ≤ h'.next
  get : ∀ id, id < n → h'.get id = h.get id
theorem Low.refl (n : Nat) (h : H) : Low n h h := ⟨rfl, Nat.le_refl _, fun _ _ => rfl⟩
theorem Low.trans {n : Nat} {h h1 h2 : H} (a : Low n h h1) (b : Low n h1 h2) : Low n h h2 := ⟨b.base.trans a.base, Nat.le_trans a.next b.next, fun id hi => (b.get id hi).trans (a.get id hi)⟩
theorem Low.down {n m : Nat} {h h1 : H} (a : Low n h h1) (hm : m ≤ n) : Low m h h1 := ⟨a.base, a.next, fun id hi => a.get id (by omega)⟩
noncomputable def pushed (h : H) (b : Blk) : H := ⟨Tr.set h.mem h.next b, Nat.succ h.next, h.base⟩
noncomputable def putted (h : H) (i : Nat) (b : Blk) : H := ⟨Tr.set h.mem i b, h.next, h.base⟩
theorem pushed_next (h : H) (b : Blk) : (pushed h b).next = h.next + 1 := rfl
theorem pushed_base (h : H) (b : Blk) : (pushed h b).base = h.base := rfl
theorem pushed_get (h : H) (b : Blk) (id : Nat) : (pushed h b).get id = if id = h.next then b else h.get id := by
  rw [H.get_eq, H.get_eq]
  show (if id < h.next + 1 then Tr.get (Tr.set h.mem h.next b) id else .dead) = _
  rw [Tr.get_set]
  by_cases h1 : id = h.next
  · subst h1; rw [if_pos (by omega), if_pos rfl, if_pos rfl]
  · rw [if_neg h1, if_neg h1]
    by_cases h2 : id < h.next
    · rw [if_pos (by omega), if_pos h2]
    · rw [if_neg (by omega), if_neg h2]
theorem putted_next (h : H) (i : Nat) (b : Blk) : (putted h i b).next = h.next := rfl
theorem putted_get (h : H) (i : Nat) (b : Blk) (hi : i < h.next) (id : Nat) : (putted h i b).get id = if id = i then b else h.get id := by
  rw [H.get_eq, H.get_eq]
  show (if id < h.next then Tr.get (Tr.set h.mem i b) id else .dead) = _
  rw [Tr.get_set]
  by_cases h1 : id = i
  · subst h1; rw [if_pos hi, if_pos rfl, if_pos rfl]
  · rw [if_neg h1, if_neg h1]
theorem pushK_is (b : Blk) (h : H) (k : Nat → H → Prop) : pushK b h k = k h.next (pushed h b) := pushK_eq b h k
theorem putK_is {i : Nat} {b : Blk} {h : H} (k : H → Prop) (h1 : i < h.next) (h2 : h.base ≤ i) : putK i b h k = k (putted h i b) := by
  cases h with | mk m n bs =>
  have a1 : Nat.blt i n = true := by rw [blt_iff]; exact h1
  have a2 : Nat.ble bs i = true := by rw [ble_iff]; exact h2
  show ck (Nat.blt i n) (ck (Nat.ble bs i) (Tr.setK m i b fun m' => k ⟨m', n, bs⟩)) = _
  rw [a1, a2, Tr.setK_eq]; rfl
theorem Low.push (n : Nat) (h : H) (b : Blk) (hn : n ≤ h.next) : Low n h (pushed h b) := ⟨rfl, Nat.le_succ _, fun id hi => by rw [pushed_get, if_neg (by omega)]⟩
theorem Low.put {n : Nat} {h : H} {i : Nat} (b : Blk) (hi : i < h.next) (hn : n ≤ i) : Low n h (putted h i b) := ⟨rfl, Nat.le_refl _, fun id hl => by rw [putted_get h i b hi, if_neg (by omega)]⟩
theorem br_intro {c : Bool} {a b : Prop} (h1 : c = true → a) (h2 : c = false → b) : br c a b := by
  cases c
  · exact h2 rfl
  · exact h1 rfl
theorem ck_intro {c : Bool} {a : Prop} (h1 : c = true) (h2 : a) : ck c a := by rw [h1]; exact h2
theorem asI_int (kk : IntKind) (n : Int) (k : Int → Prop) : asI kk (.int kk n) k = k n := by
  show ck (keq kk kk) (k n) = _
  rw [(keq_iff.2 rfl : keq kk kk = true)]; rfl
theorem asS_str (s : Str) (k : Str → Prop) : asS (.str s) k = k s := rfl
theorem asB_bool (b : Bool) (k : Bool → Prop) : asB (.bool b) k = k b := rfl
theorem asAgg_agg (l : List AV) (k : List AV → Prop) : Go.Am.asAgg (.agg l) k = k l := rfl
theorem asTup_tuple (l : List AV) (k : List AV → Prop) : Go.Am.asTup (.tuple l) k = k l := rfl
theorem op'_some {α : Type} (a : α) (k : α → Prop) : op' (some a) k = k a := rfl
theorem asSl_nils (n : Prop) (k : Nat → Nat → Nat → Nat → Nat → Bool → Prop) : asSl .nils n k = n := rfl
theorem asSl_slice (i o l c e : Nat) (x : Bool) (n : Prop) (k : Nat → Nat → Nat → Nat → Nat → Bool → Prop) : asSl (.slice i o l c e x) n k = k i o l c e x := rfl
theorem asRow_cells (m : Bool) (t : Nat) (cs : List AV) (k1 : Bool → Nat → List AV → Prop) (k2 : Nat → Nat → Bool → Str → Prop) : asRow' (.cells m t cs) k1 k2 = k1 m t cs := rfl
theorem asRow_bytes (t f : Nat) (g : Bool) (s : Str) (k1 : Bool → Nat → List AV → Prop) (k2 : Nat → Nat → Bool → Str → Prop) : asRow' (.bytes t f g s) k1 k2 = k2 t f g s := rfl
theorem asNat_int (kk : IntKind) (n : Nat) (k : Nat → Prop) : asNat (.int kk (Int.ofNat n)) k = k n := rfl
theorem jd_intro {α : Type} {j : α → List Dfr → H → Prop} {b : (α → List Dfr → H → Prop) → Prop} (P : α → List Dfr → H → Prop) (hb : ∀ j', (∀ v d h, P v d h → j' v d h) → b j') (hj : ∀ v d h, P v d h → j v d h) : J0.jd j b := hb _ hj
/-- a loop: what holds at each round's beginning; what is left to do falls -/
theorem lp_rule {α : Type} {body : (α → List Dfr → H → Prop) → α → List Dfr → H → Prop} (Inv : Nat → α → List Dfr → H → Prop)
    (hstep : ∀ n self v d h, Inv n v d h → (∀ n' v' d' h', n' < n → Inv n' v' d' h' → self v' d' h') → body self v d h) {n : Nat} {v : α} {d : List Dfr} {h : H} (hn : n < fuel) (hi : Inv n v d h) : J0.lp body v d h := by
  rw [J0.lp_ok]
  have go : ∀ f n v d h, n < f → Inv n v d h → loopN body f v d h := by
    intro f
    induction f with
    | zero => intro n v d h hn; omega
    | succ f ih =>
      intro n v d h hn hi
      exact hstep n (loopN body f) v d h hi fun n' v' d' h' hlt hi' => ih n' v' d' h' (by omega) hi'
  exact go fuel n v d h hn hi
/-- v: a row of bytes that was made at or above place n, told as l; g false: no text may be laid over it -/
def Row (g : Bool) (e n : Nat) (h : H) (v : AV) (l : List UInt8) : Prop :=
  (v = .nils ∧ l = []) ∨ ∃ id ex sg, v = .slice id 0 l.length l.length 1 ex ∧ n ≤ id ∧ id < h.next ∧ h.get id = .bytes e 0 sg (Str.of l) ∧ (g = false → sg = false)
theorem Row.nil (g : Bool) (e n : Nat) (h : H) : Row g e n h .nils [] := .inl ⟨rfl, rfl⟩
theorem Row.down {g : Bool} {e n m : Nat} {h : H} {v : AV} {l : List UInt8} (r : Row g e n h v l) (hm : m ≤ n) : Row g e m h v l := by
  rcases r with r | ⟨id, ex, sg, r1, r2, r3⟩
  · exact .inl r
  · exact .inr ⟨id, ex, sg, r1, by omega, r3⟩
theorem Row.low {g : Bool} {e n m : Nat} {h h' : H} {v : AV} {l : List UInt8} (r : Row g e n h v l) (hl : Low m h h') (hm : h.next ≤ m) : Row g e n h' v l := by
  rcases r with r | ⟨id, ex, sg, r1, r2, r3, r4, r5⟩
  · exact .inl r
  · exact .inr ⟨id, ex, sg, r1, r2, by have := hl.next; omega, by rw [hl.get id (by omega)]; exact r4, r5⟩
theorem of_len (l : List UInt8) : (Str.of l).len = l.length := rfl
theorem of_one (c : UInt8) : (⟨1, c.toNat⟩ : Str) = Str.of [c] := by simp [Str.of, Str.num]
theorem Row.push {g : Bool} {e n : Nat} {h : H} {l : List UInt8} (sg ex : Bool) (hn : n ≤ h.next) (hg : g = false → sg = false := by intro h; first | rfl | (cases h; done)) : Row g e n (pushed h (.bytes e 0 sg (Str.of l))) (.slice h.next 0 l.length l.length 1 ex) l :=
  .inr ⟨h.next, ex, sg, rfl, hn, by rw [pushed_next]; omega, by rw [pushed_get, if_pos rfl], hg⟩
theorem Row.str {g : Bool} {e n : Nat} {h : H} {v : AV} {l : List UInt8} (r : Row g e n h v l) (k : Str → Prop) : toStrK v h k = k (Str.of l) := by
  rcases r with ⟨rfl, rfl⟩ | ⟨id, ex, sg, rfl, r2, r3, r4, r5⟩
  · rfl
  · unfold toStrK
    rw [asSl_slice, r4, asRow_bytes, fN_eq]
    show ck (Nat.ble (0 + l.length) l.length) _ = _
    have : Nat.ble (0 + l.length) l.length = true := by rw [ble_iff]; omega
    rw [this, fS_eq]
    show k ((Str.of l).sub 0 (0 + l.length)) = _
    rw [Str.sub_of l 0 _ (by omega) (by omega)]
    congr 2; simp
theorem Row.len {g : Bool} {e n : Nat} {h : H} {v : AV} {l : List UInt8} (r : Row g e n h v l) (k : Nat → Prop) : lenK v k = k l.length := by
  rcases r with ⟨rfl, rfl⟩ | ⟨id, ex, sg, rfl, r2, r3, r4, r5⟩ <;> rfl
theorem srcB_row {g : Bool} {t e n : Nat} {h : H} {v : AV} {l : List UInt8} (r : Row g e n h v l) (k : Str → Prop) : srcB (.slice t) v h k = k (Str.of l) := r.str k
/-- bytes behind a row of one's own -/
theorem apB_row {g : Bool} {kd : Kd} {e n : Nat} {h : H} {v x : AV} {l m : List UInt8} {k : AV → H → Prop} (r : Row g e n h v l) (hb : h.base ≤ n) (hn : n ≤ h.next)
    (hx : ∀ f : Str → Prop, srcB kd x h f = f (Str.of m)) (hl : l.length + m.length ≤ mostRoom) (hk : ∀ v' h', Row g e n h' v' (l ++ m) → Low n h h' → k v' h') : apB kd e v x h k := by
  unfold apB
  rw [hx]
  rcases r with ⟨rfl, rfl⟩ | ⟨id, ex, sg, rfl, r2, r3, r4, r5⟩
  · rw [asSl_nils, of_len]
    refine br_intro (fun h0 => ?_) fun h0 => ck_intro ?_ ?_
    · rw [Nat.beq_eq] at h0
      obtain rfl := List.length_eq_zero_iff.1 h0
      exact hk _ _ (Row.nil g e n h) (Low.refl n h)
    · rw [ble_iff]; simpa using hl
    · rw [pushK_is]
      exact hk _ _ (Row.push false false hn (fun _ => rfl)) (Low.push n h _ hn)
  · rw [asSl_slice, r4, asRow_bytes, fN_eq, fN_eq, of_len]
    refine br_intro (fun h0 => ?_) fun h0 => ?_
    · have h0 : l.length + m.length ≤ l.length := (ble_iff _ _).1 h0
      obtain rfl : m = [] := List.length_eq_zero_iff.1 (by omega)
      exact hk _ _ (by rw [List.append_nil]; exact .inr ⟨id, ex, sg, rfl, r2, r3, r4, r5⟩) (Low.refl n h)
    · refine ck_intro (by rw [ble_iff]; exact hl) (ck_intro (by rw [ble_iff]; show 0 + l.length ≤ l.length; omega) ?_)
      rw [fS_eq]
      have e1 : ((Str.of l).sub 0 (Nat.add 0 l.length)).cat (Str.of m) = Str.of (l ++ m) := by
        show ((Str.of l).sub 0 (0 + l.length)).cat (Str.of m) = _
        rw [Str.sub_of l 0 _ (by omega) (by omega), Str.cat_of]
        congr 2; simp
      rw [e1]
      have e2 : Nat.add l.length m.length = (l ++ m).length := by simp
      rw [e2]
      refine br_intro (fun _ => ?_) fun _ => ?_
      · rw [pushK_is]
        exact hk _ _ (Row.push false false hn (fun _ => rfl)) (Low.push n h _ hn)
      · refine ck_intro rfl (ck_intro (by rw [Nat.beq_eq]) (ck_intro ?_ ?_))
        · show apB.br' _ _ _ = true
          unfold apB.br'
          cases Nat.blt 0 l.length
          · rfl
          · show Nat.ble 0 _ = true
            rw [ble_iff]; exact Nat.zero_le _
        · rw [putK_is _ r3 (by omega), pushK_is]
          have h1 := Low.put (n := n) (h := h) .dead r3 r2
          have h2 := Low.push n (putted h id .dead) (.bytes e 0 sg (Str.of (l ++ m))) hn
          exact hk _ _ (Row.push sg false hn r5) (h1.trans h2)
theorem wrapF_nat {kk : IntKind} {m : Nat} (h : m < kHi kk) : wrapF kk (Int.ofNat m) = Int.ofNat m := by rw [wrapF_eq]; exact wrap_nat kk m h
theorem wrap_u8 (n : Int) : wrapF .u8 n = n % 256 := by rw [wrapF_eq]; simp [IntKind.wrap, IntKind.bits, IntKind.signed]
theorem wrap_u64 (n : Int) : wrapF .u64 n = n % 18446744073709551616 := by rw [wrapF_eq]; simp [IntKind.wrap, IntKind.bits, IntKind.signed]
theorem wrap_i64_in {n : Int} (h1 : -9223372036854775808 ≤ n) (h2 : n < 9223372036854775808) : wrapF .i64 n = n := by
  obtain ⟨q, h3, h4, h5⟩ := wrap_i64 n; omega
theorem ltI_true {a b : Int} : ltI a b = true ↔ a < b := by rw [ltI_eq]; simp
theorem ltI_false {a b : Int} : ltI a b = false ↔ b ≤ a := by rw [ltI_eq]; simp
theorem eqI_true {a b : Int} : eqI a b = true ↔ a = b := by rw [eqI_eq]; simp
theorem eqI_false {a b : Int} : eqI a b = false ↔ a ≠ b := by rw [eqI_eq]; simp
theorem not_true {b : Bool} : Bool.not b = true ↔ b = false := by cases b <;> simp
theorem not_false' {b : Bool} : Bool.not b = false ↔ b = true := by cases b <;> simp
/-- a byte as a number -/
def bI (c : UInt8) : Int := Int.ofNat c.toNat
theorem bI_ofNat (n : Nat) : bI (UInt8.ofNat n) = Int.ofNat (n % 256) := by simp [bI]
theorem toBytes_map : ∀ l : List UInt8, toBytes (l.map fun c => AV.int .u8 (bI c)) = some (Str.of l)
  | [] => rfl
  | c :: l => by
    have hc := c.toNat_lt
    show (Bool.rec none (match toBytes (l.map fun c => AV.int .u8 (bI c)) with | some s => some (Str.cat ⟨1, c.toNat⟩ s) | none => none) (Nat.blt c.toNat 256) : Option Str) = _
    rw [toBytes_map l, (blt_iff _ _).2 (by omega), of_one]
    show some (Str.cat (Str.of [c]) (Str.of l)) = _
    rw [Str.cat_of]; rfl
theorem asRow_map (e : Nat) (l : List UInt8) : asRow true e (l.map fun c => AV.int .u8 (bI c)) = some (.bytes e 0 false (Str.of l)) := by
  show (match toBytes (l.map fun c => AV.int .u8 (bI c)) with | some s => some (Blk.bytes e 0 false s) | none => none) = _
  rw [toBytes_map]
/-- a literal of bytes behind a row of one's own -/
theorem ap_lit {g : Bool} {e n : Nat} {h : H} {row : AV} {l m : List UInt8} {k : AV → H → Prop} (r : Row g e n h row l) (hb : h.base ≤ n) (hn : n ≤ h.next) (hl : l.length + m.length ≤ mostRoom) (hk : ∀ v' h', Row g e n h' v' (l ++ m) → Low n h h' → k v' h') :
    op' (asRow true e (m.map fun c => AV.int .u8 (bI c))) (fun b => pushK b h fun i h1 => apB (.slice e) e row (.slice i 0 m.length m.length 1 true) h1 k) := by
  rw [asRow_map, op'_some, pushK_is]
  have r1 : Row false e n (pushed h (.bytes e 0 false (Str.of m))) (.slice h.next 0 m.length m.length 1 true) m := Row.push false true hn (fun _ => rfl)
  have l1 := Low.push h.next h (.bytes e 0 false (Str.of m)) (Nat.le_refl _)
  exact apB_row (r.low l1 (Nat.le_refl _)) (by rw [pushed_base]; exact hb) (by rw [pushed_next]; omega) (fun f => srcB_row r1 f) hl fun v' h' r' l' => hk v' h' r' ((l1.down hn).trans l')
theorem ap_str {g : Bool} {e n : Nat} {h : H} {row : AV} {l m : List UInt8} {k : AV → H → Prop} (r : Row g e n h row l) (hb : h.base ≤ n) (hn : n ≤ h.next) (hl : l.length + m.length ≤ mostRoom) (hk : ∀ v' h', Row g e n h' v' (l ++ m) → Low n h h' → k v' h') :
    apB .str e row (.str (Str.of m)) h k := apB_row r hb hn (fun f => rfl) hl hk
theorem eqI_b0 (c : UInt8) : eqI (bI c) (Int.ofNat 0) = decide (c = 0) := by
  rw [eqI_eq]
  by_cases h : c = 0
  · subst h; rfl
  · rw [decide_eq_false h, beq_eq_false_iff_ne]
    intro h2
    have h2 : Int.ofNat c.toNat = Int.ofNat 0 := h2
    injection h2 with h2
    exact h (UInt8.toNat_inj.1 h2)
theorem ofNat_bI (n : Nat) : wrapF .u8 (Int.ofNat n) = bI (UInt8.ofNat n) := by
  rw [wrap_u8, bI_ofNat]; rfl
theorem shr_nat (x n : Nat) : shrF (Int.ofNat x) n = Int.ofNat (x >>> n) := rfl
theorem or128 : ∀ b, b < 256 → lorF .u8 (Int.ofNat b) (Int.ofNat 128) = Int.ofNat (b % 128 + 128) := by decide +kernel
theorem or128_bI (y : Nat) : lorF .u8 (wrapF .u8 (Int.ofNat y)) (Int.ofNat 128) = bI (UInt8.ofNat (y % 128 + 128)) := by
  have h : wrapF .u8 (Int.ofNat y) = Int.ofNat (y % 256) := by rw [wrap_u8]; rfl
  rw [h, or128 _ (Nat.mod_lt _ (by decide)), bI_ofNat]
  have h1 : y % 256 % 128 = y % 128 := by omega
  rw [h1, Nat.mod_eq_of_lt (a := y % 128 + 128) (by omega)]
theorem reads_self {o : Option AV} {v : AV} (h : o = some v) (hs : AV.same v v = true) : readsSo o v = true := by rw [h]; exact hs
theorem ldV_at {h : H} {i o : Nat} {m : Bool} {t : Nat} {cs : List AV} {v : AV} (g : h.get i = .cells m t cs) (e : lgetO cs o = some v) (k : AV → Prop) : ldV (.ptr i o) h k = k v := by
  show asRow' (h.get i) _ _ = _
  rw [g]; show op' (lgetO cs o) k = _
  rw [e]; rfl
theorem ldI_at {h : H} {i o : Nat} {m : Bool} {t : Nat} {cs : List AV} {kk : IntKind} {x : Int} (g : h.get i = .cells m t cs) (e : lgetO cs o = some (.int kk x)) (k : Int → Prop) : ldI kk (.ptr i o) h k = k x := by
  unfold ldI; rw [ldV_at g e, asI_int]
theorem ldS_at {h : H} {i o : Nat} {m : Bool} {t : Nat} {cs : List AV} {x : Str} (g : h.get i = .cells m t cs) (e : lgetO cs o = some (.str x)) (k : Str → Prop) : ldS (.ptr i o) h k = k x := by
  unfold ldS; rw [ldV_at g e, asS_str]
theorem ldB_at {h : H} {i o : Nat} {m : Bool} {t : Nat} {cs : List AV} {x : Bool} (g : h.get i = .cells m t cs) (e : lgetO cs o = some (.bool x)) (k : Bool → Prop) : ldB (.ptr i o) h k = k x := by
  unfold ldB; rw [ldV_at g e, asB_bool]
theorem ldN_at {h : H} {i o n : Nat} {m : Bool} {t : Nat} {cs l : List AV} (g : h.get i = .cells m t cs) (e : ltake n (ldrop o cs) = some l) (k : List AV → Prop) : ldN n (.ptr i o) h k = k l := by
  show asRow' (h.get i) _ _ = _
  rw [g]; show op' (ltake n (ldrop o cs)) k = _
  rw [e]; rfl
theorem stV_at {h : H} {i o : Nat} {m : Bool} {t : Nat} {cs cs' : List AV} {x : AV} (g : h.get i = .cells m t cs) (h1 : isOne x = true) (e : lputAt o [x] cs = some cs') (hi : i < h.next) (hb : h.base ≤ i) (k : H → Prop) : stV (.ptr i o) x h k = k (putted h i (.cells m t cs')) := by
  show asRow' (h.get i) _ _ = _
  rw [g]; show ck (isOne x) (op' (lputAt o [x] cs) fun cs' => putK i (.cells m t cs') h k) = _
  rw [h1, e]; show putK i _ h k = _
  exact putK_is k hi hb
theorem stN_at {h : H} {i o n : Nat} {m : Bool} {t : Nat} {cs cs' xs : List AV} (g : h.get i = .cells m t cs) (h0 : xs.length = n) (h1 : allOnes xs = true) (e : lputAt o xs cs = some cs') (hi : i < h.next) (hb : h.base ≤ i) (k : H → Prop) : stN n (.ptr i o) xs h k = k (putted h i (.cells m t cs')) := by
  show asRow' (h.get i) _ _ = _
  rw [g]; show ck (Nat.beq xs.length n) (ck (allOnes xs) (op' (lputAt o xs cs) fun cs' => putK i (.cells m t cs') h k)) = _
  rw [h1, e, (Nat.beq_eq ▸ h0 : Nat.beq xs.length n = true)]; show putK i _ h k = _
  exact putK_is k hi hb
theorem aLoad1_at {h : H} {i o : Nat} {m : Bool} {t : Nat} {cs : List AV} (g : h.get i = .cells m t cs) : aLoad1 (.ptr i o) h = lgetO cs o := by
  unfold aLoad1; simp only [g]
theorem jn_is (j : AV → H → Prop) (b : (AV → H → Prop) → Prop) : J0.jn j b = b j := rfl
theorem jd_is {α : Type} (j : α → List Dfr → H → Prop) (b : (α → List Dfr → H → Prop) → Prop) : J0.jd j b = b j := rfl
theorem br_t (a b : Prop) : br true a b = a := rfl
theorem br_f (a b : Prop) : br false a b = b := rfl
theorem ck_t (a : Prop) : ck true a = a := rfl
theorem asBU_bool (b : Bool) (k : Bool → Prop) (n : Prop) : asBU (.bool b) k n = k b := rfl
theorem asBU_skip (k : Bool → Prop) (n : Prop) : asBU skipV k n = n := rfl
theorem pickB_t (a b : AV) (k : Bool → Prop) : pickB (.bool true) a b k = asB a k := rfl
theorem pickB_f (a b : AV) (k : Bool → Prop) : pickB (.bool false) a b k = asB b k := rfl
theorem okNil_ptr (i o : Nat) (p : Prop) : okNil (.ptr i o) p = p := rfl
theorem faK_ptr (off i o : Nat) (k : AV → Prop) : faK off (.ptr i o) k = k (.ptr i (Nat.add o off)) := by
  show fN (Nat.add o off) (fun o => k (.ptr i o)) = _
  rw [fN_eq]
theorem beq_lit (a b : List UInt8) : Str.beq (Str.of a) (Str.of b) = decide (a = b) := by
  rw [Str.beq_of]
  cases h : decide (a = b) with
  | true => rw [of_decide_eq_true h]; simp
  | false => have := of_decide_eq_false h; simp [this]
end Go.Am

/- Calls that hang on their arguments alone: a summary over a small heap of what they read; the caller's heap is told as it was. No condition. -/
namespace Go.Am
open Go
/-- μ, below place n alone -/
def cutMu (μ : Mu) (n : Nat) : Mu := ⟨fun id => if id < n then μ id else none, μ.sz⟩
theorem cutMu_lt {μ : Mu} {n id : Nat} (h : id < n) : cutMu μ n id = μ id := if_pos h
theorem cutMu_ge {μ : Mu} {n id : Nat} (h : n ≤ id) : cutMu μ n id = none := if_neg (by omega)
theorem cutMu_some {μ : Mu} {n id : Nat} {p : Nat × Nat} (h : cutMu μ n id = some p) : id < n ∧ μ id = some p := by
  by_cases hi : id < n
  · exact ⟨hi, by rw [← cutMu_lt hi]; exact h⟩
  · rw [cutMu_ge (by omega)] at h; cases h
/-- a small heap, all of it read alone, which stands in h as it is -/
structure Sub (h0 h : H) : Prop where
  full : h0.base = h0.next
  le : h0.next ≤ h.base
  get : ∀ id, id < h0.next → h0.get id = h.get id
theorem Sub.empty (h : H) : Sub H0 h := ⟨rfl, Nat.zero_le _, fun _ hi => absurd hi (Nat.not_lt_zero _)⟩
theorem Sub.low {h0 h h' : H} {n : Nat} (s : Sub h0 h) (l : Low n h h') (hn : h0.next ≤ n) : Sub h0 h' := ⟨s.full, by rw [l.base]; exact s.le, fun id hi => (s.get id hi).trans (l.get id (by omega)).symm⟩
theorem BlkRelU.cut {μ : Mu} {w : World} {b d n : Nat} {k : Blk} {u : Bool} (h : BlkRelU u μ w b d k) (hk : (∃ m t cs, k = .cells m t cs ∧ AV.underL n cs) ∨ (∃ t f g s, k = .bytes t f g s) ∨ k = .dead) : BlkRelU u (cutMu μ n) w b d k := by
  rcases hk with ⟨m, t, cs, rfl, hu⟩ | ⟨t, f, g, s, rfl⟩ | rfl
  · obtain ⟨ccs, fr, h1, h2, h3⟩ := h
    refine ⟨ccs, fr, h1, fun i a ha => ?_, h3⟩
    obtain ⟨v, hv, hr⟩ := h2 i a ha
    refine ⟨v, hv, AV.rel_down (μ := cutMu μ n) (μ' := μ) (n := n) (fun id hi => ⟨(cutMu_lt hi).symm, rfl⟩) a v ?_ hr⟩
    have : ∀ (l : List AV) (i : Nat) (a : AV), AV.underL n l → l[i]? = some a → AV.under n a := by
      intro l
      induction l with
      | nil => intro i a _ h; simp at h
      | cons b l ih =>
        intro i a hu ha
        cases i with
        | zero => simp at ha; subst ha; exact hu.1
        | succ i => exact ih i a hu.2 (by simpa using ha)
    exact this cs i a hu ha
  · exact h
  · trivial
/-- a small heap's blocks are rows -/
def AllRows (h0 : H) : Prop := ∀ id, id < h0.next → (∃ m t cs, h0.get id = .cells m t cs ∧ AV.underL h0.next cs) ∨ (∃ t f g s, h0.get id = .bytes t f g s) ∨ h0.get id = .dead
theorem AllRows.empty : AllRows H0 := fun _ hi => absurd hi (Nat.not_lt_zero _)
theorem rel_cut {μ : Mu} {h0 h : H} {w : World} (hr : Rel μ h w) (s : Sub h0 h) (hs : AllRows h0) : Rel (cutMu μ h0.next) h0 w := by
  refine ⟨⟨by rw [s.full]; exact Nat.le_refl _⟩, fun id b d hm => ?_, fun i j b d e hi hj li lj hbj => ?_, fun id b d hm => ?_, fun id b d ccs t fr hm hc => ?_, fun g t cs hg hc => ?_⟩
  · obtain ⟨h1, h2⟩ := cutMu_some hm
    exact ⟨h1, (hr.dom id b d h2).2⟩
  · obtain ⟨h1, h2⟩ := cutMu_some hi
    obtain ⟨h3, h4⟩ := cutMu_some hj
    rw [s.full] at hbj
    exact absurd h3 (Nat.not_lt.2 hbj)
  · obtain ⟨h1, h2⟩ := cutMu_some hm
    refine BlkRelU.cut ?_ (hs id h1)
    have hf : Nat.ble h0.base id = false := by
      cases hb : Nat.ble h0.base id
      · rfl
      · rw [ble_iff, s.full] at hb; omega
    have hf2 : Nat.ble h.base id = false := by
      cases hb : Nat.ble h.base id
      · rfl
      · rw [ble_iff] at hb; have := s.le; omega
    have := hr.blk id b d h2
    rw [hf2] at this
    rw [s.get id h1, hf]; exact this
  · obtain ⟨h1, h2⟩ := cutMu_some hm
    exact hr.cnt id b d ccs t fr h2 hc
  · rw [s.full] at hg
    rw [cutMu_lt hg]
    exact hr.glb g t cs (Nat.lt_of_lt_of_le hg s.le) (by rw [← s.get g hg]; exact hc)
theorem Rel.same {μ : Mu} {h : H} {w w' : World} (hr : Rel μ h w) (hz : w.heap.size ≤ w'.heap.size) (hb : ∀ b, b < w.heap.size → w'.heap[b]? = w.heap[b]?) : Rel μ h w' := by
  refine ⟨hr.wf, fun id b d hm => ⟨(hr.dom id b d hm).1, Nat.lt_of_lt_of_le (hr.dom id b d hm).2 hz⟩, hr.inj, fun id b d hm => ?_, fun id b d ccs t fr hm hc => ?_, hr.glb⟩
  · exact BlkRelU.mono (Le.refl μ) (hr.blk id b d hm) fun _ => hb b (hr.dom id b d hm).2
  · rw [hb b (hr.dom id b d hm).2] at hc
    exact hr.cnt id b d ccs t fr hm hc
/-- what a call over a small heap leaves of the whole one -/
theorem alone_post {μ μ1 : Mu} {h0 h h1 : H} {w w' : World} {r : AV} {v : Value} (hR : Rel μ h w) (p : Post (cutMu μ h0.next) h0 w μ1 h1 w') (hv : r.rel μ1 v) (s : Sub h0 h) (hu : r.under h0.next) : r.rel μ v ∧ Post μ h w μ h w' := by
  have hb : ∀ b, b < w.heap.size → w'.heap[b]? = w.heap[b]? := fun b hlt => p.frame.block b hlt fun id d h1 h2 => by
    obtain ⟨h3, _⟩ := cutMu_some h2
    rw [s.full] at h1
    exact absurd h3 (Nat.not_lt.2 h1)
  refine ⟨?_, ⟨fun _ _ => ⟨rfl, rfl⟩, hR.same p.frame.size hb, ⟨p.frame.os, p.frame.tape, p.frame.output, p.frame.size, fun b hlt _ => hb b hlt⟩, Grows.refl μ h, fun id b d hi hm => absurd (hR.dom id b d hm).1 (by omega)⟩⟩
  have h2 := AV.rel_down (μ := cutMu μ h0.next) (μ' := μ1) (n := h0.next) p.ext r v hu hv
  exact AV.rel_mono (μ := cutMu μ h0.next) (μ' := μ) (fun id p hm => ⟨(cutMu_some hm).2, rfl⟩) r v h2
/-- what a function answers over a small heap, over a greater one -/
noncomputable def aloneF (g : Fun) : Fun := fun as h k => ∃ h0, Sub h0 h ∧ AllRows h0 ∧ AV.underL h0.next as ∧ g as h0 fun r _ => AV.under h0.next r ∧ k r h
theorem FunOk.alone {P : Program} {f : FuncId} {g : Fun} (hg : FunOk P f g) : FunOk P f (aloneF g) := by
  intro as h Q ⟨h0, s, hs, hu, e⟩ μ w args hR ha
  have hR0 := rel_cut hR s hs
  have ha0 : AV.relL (cutMu μ h0.next) as args.toList := AV.relL_down (μ := cutMu μ h0.next) (μ' := μ) (n := h0.next) (fun id hi => ⟨(cutMu_lt hi).symm, rfl⟩) as _ hu ha
  rcases hg as h0 _ e (cutMu μ h0.next) w args hR0 ha0 with ⟨v, w', μ1, r, h1, q1, q2, q3, q4, q5⟩ | ⟨q1, q2⟩
  · obtain ⟨r1, r2⟩ := alone_post hR q3 q2 s q4
    exact .inl ⟨v, w', μ, r, h, q1, r1, r2, q5⟩
  · refine .inr ⟨q1, Calls.mono q2 fun e w' ⟨v, μ1, r, h1, p1, p2, p3, p4, p5⟩ => ?_⟩
    obtain ⟨r1, r2⟩ := alone_post hR p3 p2 s p4
    exact ⟨v, μ, r, h, p1, r1, r2, p5⟩
end Go.Am

/- Arguments that hold slices: rows that are read alone, told in a heap of their own. No condition. -/
namespace Go.Am
open Go Go.ChangeShapes Go.WideShapes Go.RowKit
/-- a row of cells that comes in: its block, the place in it, the block's type, what is told of it -/
abbrev RowIn := Nat × Nat × Nat × List AV
def blkIn (r : RowIn) : Blk := .cells true r.2.2.1 r.2.2.2
theorem rowAt_le {P : Program} {fits : TypeId → Bool} : ∀ {d : Nat} {e : TypeId} {count off n : Nat}, rowAt P fits d e count off n = true → off ≤ count * P.cellsOf e
  | 0, _, _, _, _, h => by unfold rowAt at h; cases h
  | d + 1, e, count, off, n, h => by
    unfold rowAt at h
    simp only at h
    split at h
    · cases h
    · rename_i hs
      have hs : 0 < P.cellsOf e := Nat.pos_of_ne_zero hs
      have hdm := Nat.div_add_mod off (P.cellsOf e)
      have hml := Nat.mod_lt off hs
      rw [Bool.or_eq_true] at h
      rcases h with h | h
      · simp only [Bool.and_eq_true, beq_iff_eq, decide_eq_true_eq] at h
        have h1 := Nat.mul_le_mul_right (P.cellsOf e) (show off / P.cellsOf e ≤ count by omega)
        rw [Nat.mul_comm (off / P.cellsOf e)] at h1; omega
      · rw [Bool.and_eq_true, decide_eq_true_eq] at h
        have h1 := Nat.mul_le_mul_right (P.cellsOf e) (show off / P.cellsOf e + 1 ≤ count by omega)
        rw [Nat.add_mul, Nat.mul_comm (off / P.cellsOf e)] at h1; omega
theorem liesAt_le {P : Program} : ∀ {d : Nat} {e : TypeId} {count off : Nat} {u : TypeId} {n : Nat}, liesAt P d e count off u n = true → off ≤ count * P.cellsOf e
  | 0, _, _, _, _, _, h => by unfold liesAt at h; cases h
  | d + 1, e, count, off, u, n, h => by
    unfold liesAt at h
    rw [Bool.or_eq_true] at h
    rcases h with h | h
    · exact rowAt_le h
    · split at h
      · exact liesAt_le h
      · cases h
theorem has_row {P : Program} {w : World} {r : Reach} {base : Nat} {a : Addr} {e : TypeId} {n : Nat} (h : w.has P r base a e n) : a.spot = none ∧ ∃ ccs t fr, w.heap[a.block]? = some (.cells ccs t fr) ∧ a.off ≤ ccs.size := by
  obtain ⟨_, h1, row, cells, h2, h3⟩ := h
  refine ⟨h1, ?_⟩
  unfold World.shape? at h2
  split at h2
  · rename_i ccs t fr hc
    injection h2 with h2; injection h2 with e1 e2; subst e1 e2
    refine ⟨ccs, t, fr, hc, ?_⟩
    have := liesAt_le h3
    have h4 := Nat.div_mul_le_self ccs.size (P.cellsOf t)
    omega
  · cases h2
section
variable {H' : Type} {enc : TypeId × Value → H'} {P : Program} {w : World} {base : Nat} {sp : Nat → Bool} {hd : Bool}
theorem trod_string {t : TypeId} {fuel : Nat} {v : Value} {y : DataW H' × List MemPlace} (ht : P.underlying t = some .string) (h : DataW.trod enc P w base sp hd fuel t [v] = some y) : ∃ s, v = .string s ∧ s.size ≤ maxLen := by
  cases fuel with
  | zero => unfold DataW.trod at h; cases h
  | succ fuel =>
    unfold DataW.trod at h
    simp only [ht] at h
    cases v <;> simp only at h <;> first | (cases h; done) | skip
    split at h
    · rename_i hs; exact ⟨_, rfl, hs⟩
    · cases h
theorem cell_add {b o i : Nat} {ccs : Array Value} {t : TypeId} {fr : Nat × Nat} {v : Value} (hb : w.heap[b]? = some (.cells ccs t fr)) (h : w.cell? ((⟨b, o, none⟩ : Addr).add i) = some v) : ccs[o + i]? = some v := by
  have e : (⟨b, o, none⟩ : Addr).add i = ⟨b, o + i, none⟩ := by
    unfold Addr.add; split
    · rename_i h0; subst h0; rfl
    · rfl
  rw [e] at h
  unfold World.cell? at h
  simp only [hb] at h
  exact h
end
def ShapeL (P : Program) (u : TypeId) (a : AV) : Prop :=
  match P.underlying u with
  | some (.int k) => ∃ n, a = .int k n
  | some .string => ∃ l, a = .str (Str.of l)
  | some .bool => ∃ b, a = .bool b
  | _ => a = .junk
def ShapesL (P : Program) : List TypeId → List AV → Prop
  | [], [] => True
  | u :: us, a :: as => ShapeL P u a ∧ ShapesL P us as
  | _, _ => False
theorem cell_shapeL {P : Program} {w : World} {r : Reach} {base : Nat} {u : TypeId} {v : Value} {μ : Mu} (h : Cell.okWide P w r base u v) : ∃ a, ShapeL P u a ∧ AV.rel μ a v := by
  unfold ShapeL
  cases hu : P.underlying u with
  | none => exact ⟨.junk, rfl, by simp only [AV.rel]⟩
  | some d =>
    cases d with
    | bool =>
      obtain ⟨b, rfl⟩ := okWide_bool hu (show Value.okWide P w r base u v by simp only [Value.okWide, hu]; exact h)
      exact ⟨.bool b, ⟨b, rfl⟩, by simp only [AV.rel]⟩
    | int k =>
      obtain ⟨b, rfl⟩ := okWide_int hu (show Value.okWide P w r base u v by simp only [Value.okWide, hu]; exact h)
      exact ⟨.int k b, ⟨b, rfl⟩, by simp only [AV.rel]⟩
    | string =>
      obtain ⟨b, rfl⟩ := okWide_string hu (show Value.okWide P w r base u v by simp only [Value.okWide, hu]; exact h)
      exact ⟨.str (Str.of b.data.toList), ⟨_, rfl⟩, by simp only [AV.rel]; exact ⟨b, rfl, rfl⟩⟩
    | _ => exact ⟨.junk, rfl, by simp only [AV.rel]⟩
theorem row_shapeL {P : Program} {w : World} {r : Reach} {base : Nat} {μ : Mu} : ∀ {ts : List TypeId} {vs : List Value}, vs.length = ts.length → (∀ (i : Nat) (v : Value), vs[i]? = some v → ∃ u, ts[i]? = some u ∧ Cell.okWide P w r base u v) → ∃ as, ShapesL P ts as ∧ AV.relL μ as vs
  | [], vs, hl, _ => ⟨[], trivial, AV.relL_nil.2 (List.length_eq_zero_iff.1 hl)⟩
  | u :: ts, [], hl, _ => by cases hl
  | u :: ts, v :: vs, hl, h => by
    obtain ⟨u', hu, hc⟩ := h 0 v rfl
    have : u = u' := by simpa using hu
    subst this
    obtain ⟨a, ha, hr⟩ := cell_shapeL (μ := μ) hc
    obtain ⟨as, has, hrs⟩ := row_shapeL (μ := μ) (ts := ts) (vs := vs) (by simpa using hl) fun i v hv => by simpa using h (i + 1) v (by simpa using hv)
    exact ⟨a :: as, ⟨ha, has⟩, AV.relL_cons_cons.2 ⟨hr, hrs⟩⟩
theorem agg_shapeL {P : Program} {w : World} {r : Reach} {base : Nat} {t : TypeId} {v : Value} {fs : Array Field} {ts : List TypeId} {μ : Mu} (ht : P.underlying t = some (.struct fs)) (hts : P.cellTypes P.depth t = some ts) (hc : P.cellsOf t = ts.length) (h : Value.okWide P w r base t v) :
    ∃ (as : List AV) (cs : Array Value), ShapesL P ts as ∧ v = .agg cs ∧ AV.relL μ as cs.toList ∧ ∀ (i : Nat) (x : Value), cs.toList[i]? = some x → ∃ u, ts[i]? = some u ∧ Cell.okWide P w r base u x := by
  simp only [Value.okWide, ht] at h
  obtain ⟨cs, rfl, hs, ts', h1, _, h2⟩ := h
  rw [hts] at h1
  injection h1 with h1; subst h1
  have hl : cs.toList.length = ts.length := by rw [Array.length_toList, hs, hc]
  have hcell : ∀ (i : Nat) (x : Value), cs.toList[i]? = some x → ∃ u, ts[i]? = some u ∧ Cell.okWide P w r base u x := fun i v hv => by
    rw [Array.getElem?_toList] at hv
    obtain ⟨u, hu, hok⟩ := h2 i v hv
    have hi : i < cs.size := (Array.getElem?_eq_some_iff.1 hv).1
    have hi' : i < ts.length := by rw [← hl, Array.length_toList]; exact hi
    rw [Nat.mod_eq_of_lt hi'] at hu
    exact ⟨u, hu, hok⟩
  obtain ⟨as, q1, q2⟩ := row_shapeL (P := P) (w := w) (r := r) (base := base) (μ := μ) (ts := ts) (vs := cs.toList) hl hcell
  exact ⟨as, cs, q1, rfl, q2, hcell⟩
end Go.Am

/- Calls that read and write one object alone: a summary over a heap of that object alone; the caller's heap is told with the object as it is behind the call. No condition. -/
namespace Go.Am
open Go
mutual
/-- a value that names no block -/
def AV.flat : AV → Bool
  | .bool _ => true
  | .int _ _ => true
  | .str _ => true
  | .nilp => true
  | .nils => true
  | .nilm => true
  | .nilf => true
  | .nili => true
  | .junk => true
  | .agg cs => AV.flatL cs
  | .tuple cs => AV.flatL cs
  | _ => false
def AV.flatL : List AV → Bool
  | [] => true
  | a :: as => AV.flat a && AV.flatL as
end
mutual
theorem AV.flat_rel {μ μ' : Mu} : ∀ (a : AV) (v : Value), a.flat = true → a.rel μ v → a.rel μ' v
  | .bool _, _, _, h => by simpa [AV.rel] using h
  | .int _ _, _, _, h => by simpa [AV.rel] using h
  | .str _, _, _, h => by simpa [AV.rel] using h
  | .nilp, _, _, h => by simpa [AV.rel] using h
  | .nils, _, _, h => by simpa [AV.rel] using h
  | .nilm, _, _, h => by simpa [AV.rel] using h
  | .nilf, _, _, h => by simpa [AV.rel] using h
  | .nili, _, _, h => by simpa [AV.rel] using h
  | .junk, _, _, _ => by simp [AV.rel]
  | .agg cs, v, hf, h => by
    simp only [AV.rel, AV.flat] at h hf ⊢
    obtain ⟨vs, h1, h2⟩ := h; exact ⟨vs, h1, AV.flatL_rel cs _ hf h2⟩
  | .tuple cs, v, hf, h => by
    simp only [AV.rel, AV.flat] at h hf ⊢
    obtain ⟨vs, h1, h2⟩ := h; exact ⟨vs, h1, AV.flatL_rel cs _ hf h2⟩
  | .ptr _ _, _, hf, _ => by simp [AV.flat] at hf
  | .slice _ _ _ _ _ _, _, hf, _ => by simp [AV.flat] at hf
  | .map _, _, hf, _ => by simp [AV.flat] at hf
  | .func _ _ _, _, hf, _ => by simp [AV.flat] at hf
  | .iface _ _, _, hf, _ => by simp [AV.flat] at hf
  | .yield _, _, hf, _ => by simp [AV.flat] at hf
  | .glob _ _, _, hf, _ => by simp [AV.flat] at hf
theorem AV.flatL_rel {μ μ' : Mu} : ∀ (l : List AV) (vs : List Value), AV.flatL l = true → AV.relL μ l vs → AV.relL μ' l vs
  | [], _, _, h => by simpa [AV.relL] using h
  | a :: as, vs, hf, h => by
    simp only [AV.relL, AV.flatL, Bool.and_eq_true] at h hf ⊢
    obtain ⟨v, vs', h1, h2, h3⟩ := h; exact ⟨v, vs', h1, AV.flat_rel a _ hf.1 h2, AV.flatL_rel as _ hf.2 h3⟩
end
theorem flatL_get : ∀ {l : List AV} {i : Nat} {a : AV}, AV.flatL l = true → l[i]? = some a → a.flat = true
  | [], i, a, _, h => by simp at h
  | b :: l, 0, a, hf, h => by
    simp only [AV.flatL, Bool.and_eq_true] at hf
    simp at h; subst h; exact hf.1
  | b :: l, i + 1, a, hf, h => by
    simp only [AV.flatL, Bool.and_eq_true] at hf
    exact flatL_get hf.2 (by simpa using h)
/-- the heap of one object alone -/
noncomputable def hOne (b : Blk) : H := ⟨Tr.set .lf 0 b, 1, 0⟩
theorem hOne_get (b : Blk) : (hOne b).get 0 = b := rfl
theorem cells_flat {μ μ' : Mu} {w : World} {b d : Nat} {m : Bool} {t : Nat} {cs : List AV} (hf : AV.flatL cs = true) (h : BlkRel μ w b d (.cells m t cs)) : BlkRel μ' w b d (.cells m t cs) := by
  obtain ⟨ccs, fr, h1, h2, h3, h4⟩ := h
  exact ⟨ccs, fr, h1, fun i a ha => let ⟨v, hv, hr⟩ := h2 i a ha; ⟨v, hv, AV.flat_rel a v (flatL_get hf ha) hr⟩, h3, h4⟩
def muOne (μ : Mu) (id : Nat) : Mu := ⟨fun i => if i = 0 then μ id else none, fun i => if i = 0 then μ.sz id else 0⟩
/-- what a call over one object leaves of the whole heap -/
theorem own_post {μ μ1 : Mu} {h h1 : H} {w w' : World} {id t b d : Nat} {cs cs' : List AV} (hR : Rel μ h w) (hm : μ id = some (b, d)) (hb : h.base ≤ id) (hg : h.get id = .cells false t cs)
    (p : Post (muOne μ id) (hOne (.cells false t cs)) w μ1 h1 w') (hg1 : h1.get 0 = .cells false t cs') (hf' : AV.flatL cs' = true) : Post μ h w μ (putted h id (.cells false t cs')) w' := by
  have hid := (hR.dom id b d hm).1
  have hm0 : muOne μ id 0 = some (b, d) := by show (if (0 : Nat) = 0 then μ id else none) = _; rw [if_pos rfl]; exact hm
  have hm1 : μ1 0 = some (b, d) := by rw [(p.ext 0 Nat.one_pos).1]; exact hm0
  have hs1 : μ1.sz 0 = μ.sz id := by rw [(p.ext 0 Nat.one_pos).2]; show (if (0 : Nat) = 0 then μ.sz id else 0) = _; rw [if_pos rfl]
  have other : ∀ c, c < w.heap.size → c ≠ b → w'.heap[c]? = w.heap[c]? := fun c hc hne => p.frame.block c hc fun i e _ hi => by
    have hi : (if i = 0 then μ id else none) = some (c, e) := hi
    by_cases h0 : i = 0
    · rw [if_pos h0, hm] at hi; injection hi with hi; injection hi with e1 e2; exact absurd e1.symm hne
    · rw [if_neg h0] at hi; cases hi
  have hlive : (h.get id).live = true := by rw [hg]; rfl
  have hpg : ∀ i, (putted h id (.cells false t cs')).get i = if i = id then .cells false t cs' else h.get i := fun i => putted_get h id _ hid i
  have hsz := p.frame.size
  have hcnt : ∀ ccs tt fr, w'.heap[b]? = some (.cells ccs tt fr) → ∀ i e, μ i = some (b, e) → ccs.size = μ.sz i := fun ccs tt fr hw i e hi => by
    have h2 := p.rel.cnt 0 b d ccs tt fr hm1 hw
    rw [hs1] at h2
    have hold := hR.blk id b d hm
    rw [hg] at hold
    obtain ⟨ccs0, fr0, q1, _⟩ := hold
    rw [h2, ← hR.cnt id b d ccs0 t fr0 hm q1, hR.cnt i b e ccs0 t fr0 hi q1]
  have hblk : BlkRel μ w' b d (.cells false t cs') := by
    have h2 := p.rel.blk 0 b d hm1
    rw [hg1] at h2
    have hb1 : h1.base = 0 := p.grows.base
    exact cells_flat hf' (h2.full (by rw [ble_iff, hb1]; exact Nat.zero_le _))
  refine ⟨fun _ _ => ⟨rfl, rfl⟩, ⟨⟨hR.wf.low⟩, fun i c e hi => ⟨(hR.dom i c e hi).1, Nat.lt_of_lt_of_le (hR.dom i c e hi).2 hsz⟩, fun i j c e f hi hj li lj hbj => ?_, fun i c e hi => ?_, fun i c e ccs tt fr hi hw => ?_, ?_⟩, ⟨p.frame.os, p.frame.tape, p.frame.output, hsz, fun c hc hn => other c hc fun e => ?_⟩, ⟨Nat.le_refl _, rfl, fun i hi hn => ?_, fun i hi => ?_, fun i hi hl => ?_⟩, fun i c e hi hi2 => absurd (hR.dom i c e hi2).1 (by have : h.next ≤ i := hi; omega)⟩
  · have live : ∀ q, ((putted h id (.cells false t cs')).get q).live = true → (h.get q).live = true := fun q hq => by
      rw [hpg] at hq
      by_cases e : q = id
      · rw [e]; exact hlive
      · rw [if_neg e] at hq; exact hq
    exact hR.inj i j c e f hi hj (live i li) (live j lj) hbj
  · rw [hpg]
    by_cases e1 : i = id
    · subst e1
      rw [hm] at hi; injection hi with hi; injection hi with e2 e3; subst e2 e3
      rw [if_pos rfl]; exact hblk.any
    · rw [if_neg e1]
      cases hli : (h.get i).live with
      | false =>
        have : h.get i = .dead := by revert hli; cases h.get i <;> simp [Blk.live]
        rw [this]; trivial
      | true =>
        exact (hR.blk i c e hi).mono (Le.refl _) fun _ => other c (hR.dom i c e hi).2 fun ec => by
          subst ec; exact e1 (hR.inj i id c e d hi hm hli hlive hb)
  · by_cases ec : c = b
    · subst ec; exact hcnt ccs tt fr hw i e hi
    · exact hR.cnt i c e ccs tt fr hi (by rw [← other c (hR.dom i c e hi).2 ec]; exact hw)
  · exact hR.glb.step rfl (fun i hi => by have hi : i < h.base := hi; rw [hpg, if_neg (by omega)]) fun _ _ => rfl
  · subst e
    have := hn id d hb hm; rw [hlive] at this; cases this
  · rw [hpg, if_neg]; intro e; subst e; rw [hm] at hn; cases hn
  · rw [hpg, if_neg (by omega)]
  · rw [hpg] at hl
    by_cases e : i = id
    · rw [e]; exact hlive
    · rw [if_neg e] at hl; exact hl
/-- a function of one object and of values that name no block, over a greater heap -/
noncomputable def ownF (g : Fun) : Fun := fun xs h k => ∃ (id t : Nat) (cs ys : List AV), xs = .ptr id 0 :: ys ∧ h.base ≤ id ∧ h.get id = .cells false t cs ∧ AV.flatL cs = true ∧ AV.flatL ys = true ∧
  g (.ptr 0 0 :: ys) (hOne (.cells false t cs)) fun r h1 => r.flat = true ∧ ∃ cs', h1.get 0 = .cells false t cs' ∧ AV.flatL cs' = true ∧ k r (putted h id (.cells false t cs'))
theorem FunOk.own {P : Program} {f : FuncId} {g : Fun} (hg : FunOk P f g) : FunOk P f (ownF g) := by
  intro xs h Q ⟨id, t, cs, ys, hxs, hb, hgi, hf, hfy, e⟩ μ w args hR ha
  subst hxs
  obtain ⟨v0, vs, hvs, h0, hys⟩ := AV.relL_cons.1 ha
  have h0' := h0
  simp only [AV.rel] at h0'
  obtain ⟨b, d, hm, rfl⟩ := h0'
  have hm0 : muOne μ id 0 = some (b, d) := by show (if (0 : Nat) = 0 then μ id else none) = _; rw [if_pos rfl]; exact hm
  have hR0 : Rel (muOne μ id) (hOne (.cells false t cs)) w := by
    have only : ∀ i c e, muOne μ id i = some (c, e) → i = 0 ∧ c = b ∧ e = d := fun i c e hi => by
      have hi : (if i = 0 then μ id else none) = some (c, e) := hi
      by_cases h0 : i = 0
      · rw [if_pos h0, hm] at hi; injection hi with hi; injection hi with e1 e2; exact ⟨h0, e1.symm, e2.symm⟩
      · rw [if_neg h0] at hi; cases hi
    refine ⟨⟨Nat.zero_le _⟩, fun i c e hi => ?_, fun i j c e f hi hj _ _ _ => ?_, fun i c e hi => ?_, fun i c e ccs tt fr hi hw => ?_, fun g _ _ hg _ => absurd hg (Nat.not_lt_zero _)⟩
    · obtain ⟨rfl, rfl, rfl⟩ := only i c e hi; exact ⟨Nat.one_pos, (hR.dom id _ _ hm).2⟩
    · rw [(only i c e hi).1, (only j c f hj).1]
    · obtain ⟨rfl, rfl, rfl⟩ := only i c e hi
      have h2 := hR.blk id _ _ hm
      rw [hgi] at h2
      rw [hOne_get]
      exact (cells_flat hf (h2.full (by rw [ble_iff]; exact hb))).any
    · obtain ⟨rfl, rfl, rfl⟩ := only i c e hi
      show ccs.size = if (0 : Nat) = 0 then μ.sz id else 0
      rw [if_pos rfl]; exact hR.cnt id _ _ ccs tt fr hm hw
  have ha0 : AV.relL (muOne μ id) (.ptr 0 0 :: ys) args.toList := by
    rw [hvs]
    refine AV.relL_cons_cons.2 ⟨?_, AV.flatL_rel ys _ hfy hys⟩
    simp only [AV.rel]; exact ⟨b, d, hm0, rfl⟩
  rcases hg _ _ _ e (muOne μ id) w args hR0 ha0 with ⟨v, w', μ1, r, h1, q1, q2, q3, q4, cs', q5, q6, q7⟩ | ⟨q1, q2⟩
  · exact .inl ⟨v, w', μ, r, _, q1, AV.flat_rel r v q4 q2, own_post hR hm hb hgi q3 q5 q6, q7⟩
  · refine .inr ⟨q1, Calls.mono q2 fun e w' ⟨v, μ1, r, h1, p1, p2, p3, p4, cs', p5, p6, p7⟩ => ?_⟩
    exact ⟨v, μ, r, _, p1, AV.flat_rel r v p4 p2, own_post hR hm hb hgi p3 p5 p6, p7⟩
end Go.Am

/- Regions that draw and only reckon: the order of the text will do. No condition. -/
namespace Go.Am
open Go
set_option linter.all false
end Go.Am

/- Calls that only read rows of the caller: a summary over a heap of those rows alone; the caller's heap is told as it was. No condition. -/
namespace Go.Am
open Go
set_option linter.all false
mutual
/-- block i named ρ i -/
def AV.ren (ρ : Nat → Nat) : AV → AV
  | .ptr id off => .ptr (ρ id) off
  | .slice id off len cap es ex => .slice (ρ id) off len cap es ex
  | .map id => .map (ρ id)
  | .yield id => .yield (ρ id)
  | .func fn f c => .func fn (AV.renL ρ f) (AV.renL ρ c)
  | .iface t v => .iface t (AV.ren ρ v)
  | .agg cs => .agg (AV.renL ρ cs)
  | .tuple cs => .tuple (AV.renL ρ cs)
  | a => a
def AV.renL (ρ : Nat → Nat) : List AV → List AV
  | [] => []
  | a :: as => AV.ren ρ a :: AV.renL ρ as
end
def lendMu (μ : Mu) (ρ : Nat → Nat) (n : Nat) : Mu := ⟨fun i => if i < n then μ (ρ i) else none, fun i => μ.sz (ρ i)⟩
theorem lendMu_lt {μ : Mu} {ρ : Nat → Nat} {n i : Nat} (h : i < n) : lendMu μ ρ n i = μ (ρ i) := if_pos h
mutual
theorem AV.rel_ren {μ : Mu} {ρ : Nat → Nat} {n : Nat} : ∀ (a : AV) (v : Value), a.under n → (a.ren ρ).rel μ v → a.rel (lendMu μ ρ n) v
  | .junk, _, _, _ => by simp [AV.rel]
  | .bool _, _, _, h => by simpa [AV.rel, AV.ren] using h
  | .int _ _, _, _, h => by simpa [AV.rel, AV.ren] using h
  | .str _, _, _, h => by simpa [AV.rel, AV.ren] using h
  | .nilp, _, _, h => by simpa [AV.rel, AV.ren] using h
  | .nils, _, _, h => by simpa [AV.rel, AV.ren] using h
  | .nilm, _, _, h => by simpa [AV.rel, AV.ren] using h
  | .nilf, _, _, h => by simpa [AV.rel, AV.ren] using h
  | .nili, _, _, h => by simpa [AV.rel, AV.ren] using h
  | .glob _ _, _, _, h => by simpa [AV.rel, AV.ren] using h
  | .ptr id off, v, hu, h => by
    simp only [AV.rel, AV.ren, AV.under] at h hu ⊢
    rw [lendMu_lt hu]; exact h
  | .slice id off len cap es ex, v, hu, h => by
    simp only [AV.rel, AV.ren, AV.under] at h hu ⊢
    rw [lendMu_lt hu]; exact h
  | .map id, v, hu, h => by
    simp only [AV.rel, AV.ren, AV.under] at h hu ⊢
    rw [lendMu_lt hu]; exact h
  | .yield id, v, hu, h => by
    simp only [AV.rel, AV.ren, AV.under] at h hu ⊢
    rw [lendMu_lt hu]; exact h
  | .func fn f c, v, hu, h => by
    simp only [AV.rel, AV.ren, AV.under] at h hu ⊢
    obtain ⟨f', c', h1, h2, h3⟩ := h
    exact ⟨f', c', h1, AV.relL_ren f _ hu.1 h2, AV.relL_ren c _ hu.2 h3⟩
  | .iface t x, v, hu, h => by
    simp only [AV.rel, AV.ren, AV.under] at h hu ⊢
    obtain ⟨y, h1, h2⟩ := h
    exact ⟨y, h1, AV.rel_ren x _ hu h2⟩
  | .agg cs, v, hu, h => by
    simp only [AV.rel, AV.ren, AV.under] at h hu ⊢
    obtain ⟨vs, h1, h2⟩ := h
    exact ⟨vs, h1, AV.relL_ren cs _ hu h2⟩
  | .tuple cs, v, hu, h => by
    simp only [AV.rel, AV.ren, AV.under] at h hu ⊢
    obtain ⟨vs, h1, h2⟩ := h
    exact ⟨vs, h1, AV.relL_ren cs _ hu h2⟩
theorem AV.relL_ren {μ : Mu} {ρ : Nat → Nat} {n : Nat} : ∀ (l : List AV) (vs : List Value), AV.underL n l → AV.relL μ (AV.renL ρ l) vs → AV.relL (lendMu μ ρ n) l vs
  | [], _, _, h => by simpa [AV.relL, AV.renL] using h
  | a :: as, vs, hu, h => by
    simp only [AV.relL, AV.renL, AV.underL] at h hu ⊢
    obtain ⟨v, vs', h1, h2, h3⟩ := h
    exact ⟨v, vs', h1, AV.rel_ren a _ hu.1 h2, AV.relL_ren as _ hu.2 h3⟩
end
/-- a small heap of rows that are read alone; row i stands in h as block ρ i -/
structure Lent (h0 h : H) (ρ : Nat → Nat) : Prop where
  full : h0.base = h0.next
  rows : ∀ i, i < h0.next → ∃ m t cs, h0.get i = .cells true t cs ∧ AV.flatL cs = true ∧ h.get (ρ i) = .cells m t cs
theorem BlkRelU.weak {μ : Mu} {w : World} {b d : Nat} {k : Blk} {u : Bool} (h : BlkRelU u μ w b d k) : BlkRelU false μ w b d k := by
  cases u with
  | false => exact h
  | true => exact BlkRel.any (u := false) h
mutual
theorem AV.ren_rel {μ : Mu} {ρ : Nat → Nat} {n : Nat} : ∀ (a : AV) (v : Value), a.under n → a.rel (lendMu μ ρ n) v → (a.ren ρ).rel μ v
  | .junk, _, _, _ => by simp [AV.rel, AV.ren]
  | .bool _, _, _, h => by simpa [AV.rel, AV.ren] using h
  | .int _ _, _, _, h => by simpa [AV.rel, AV.ren] using h
  | .str _, _, _, h => by simpa [AV.rel, AV.ren] using h
  | .nilp, _, _, h => by simpa [AV.rel, AV.ren] using h
  | .nils, _, _, h => by simpa [AV.rel, AV.ren] using h
  | .nilm, _, _, h => by simpa [AV.rel, AV.ren] using h
  | .nilf, _, _, h => by simpa [AV.rel, AV.ren] using h
  | .nili, _, _, h => by simpa [AV.rel, AV.ren] using h
  | .glob _ _, _, _, h => by simpa [AV.rel, AV.ren] using h
  | .ptr id off, v, hu, h => by
    simp only [AV.rel, AV.ren, AV.under] at h hu ⊢
    rw [lendMu_lt hu] at h; exact h
  | .slice id off len cap es ex, v, hu, h => by
    simp only [AV.rel, AV.ren, AV.under] at h hu ⊢
    rw [lendMu_lt hu] at h; exact h
  | .map id, v, hu, h => by
    simp only [AV.rel, AV.ren, AV.under] at h hu ⊢
    rw [lendMu_lt hu] at h; exact h
  | .yield id, v, hu, h => by
    simp only [AV.rel, AV.ren, AV.under] at h hu ⊢
    rw [lendMu_lt hu] at h; exact h
  | .func fn f c, v, hu, h => by
    simp only [AV.rel, AV.ren, AV.under] at h hu ⊢
    obtain ⟨f', c', h1, h2, h3⟩ := h
    exact ⟨f', c', h1, AV.renL_rel f _ hu.1 h2, AV.renL_rel c _ hu.2 h3⟩
  | .iface t x, v, hu, h => by
    simp only [AV.rel, AV.ren, AV.under] at h hu ⊢
    obtain ⟨y, h1, h2⟩ := h
    exact ⟨y, h1, AV.ren_rel x _ hu h2⟩
  | .agg cs, v, hu, h => by
    simp only [AV.rel, AV.ren, AV.under] at h hu ⊢
    obtain ⟨vs, h1, h2⟩ := h
    exact ⟨vs, h1, AV.renL_rel cs _ hu h2⟩
  | .tuple cs, v, hu, h => by
    simp only [AV.rel, AV.ren, AV.under] at h hu ⊢
    obtain ⟨vs, h1, h2⟩ := h
    exact ⟨vs, h1, AV.renL_rel cs _ hu h2⟩
theorem AV.renL_rel {μ : Mu} {ρ : Nat → Nat} {n : Nat} : ∀ (l : List AV) (vs : List Value), AV.underL n l → AV.relL (lendMu μ ρ n) l vs → AV.relL μ (AV.renL ρ l) vs
  | [], _, _, h => by simpa [AV.relL, AV.renL] using h
  | a :: as, vs, hu, h => by
    simp only [AV.relL, AV.renL, AV.underL] at h hu ⊢
    obtain ⟨v, vs', h1, h2, h3⟩ := h
    exact ⟨v, vs', h1, AV.ren_rel a _ hu.1 h2, AV.renL_rel as _ hu.2 h3⟩
end
def freshMu (μ μ1 : Mu) (n id : Nat) : Mu := ⟨fun i => if i = n then μ1 id else μ i, fun i => if i = n then μ1.sz id else μ.sz i⟩
theorem freshMu_n {μ μ1 : Mu} {n id : Nat} : freshMu μ μ1 n id n = μ1 id := if_pos rfl
theorem freshMu_ne {μ μ1 : Mu} {n id i : Nat} (h : i ≠ n) : freshMu μ μ1 n id i = μ i ∧ (freshMu μ μ1 n id).sz i = μ.sz i := ⟨if_neg h, if_neg h⟩
theorem fresh_post {μ μ1 : Mu} {h h1 : H} {w w' : World} {id t : Nat} {m : Bool} {cs : List AV} (hR : Rel μ h w) (p : Post noMu H0 w μ1 h1 w') (hg : h1.get id = .cells m t cs) (hf : AV.flatL cs = true) :
    Post μ h w (freshMu μ μ1 h.next id) (pushed h (.cells m t cs)) w' := by
  have hb : ∀ b, b < w.heap.size → w'.heap[b]? = w.heap[b]? := fun b hlt => p.frame.block b hlt fun id d _ h2 => by cases h2
  have hsz := p.frame.size
  have new : ∀ b d, μ1 id = some (b, d) → w.heap.size ≤ b := fun b d hm => by
    rcases Nat.lt_or_ge b w.heap.size with hlt | hge
    · obtain ⟨_, _, _, h2, _⟩ := p.fresh id b d (Nat.zero_le _) hm hlt (by rw [hg]; rfl)
      cases h2
    · exact hge
  have old : ∀ i b d, μ i = some (b, d) → i ≠ h.next := fun i b d hm => by have := (hR.dom i b d hm).1; omega
  have le : Le μ (freshMu μ μ1 h.next id) := fun i q hm => by
    obtain ⟨e1, e2⟩ := freshMu_ne (μ := μ) (μ1 := μ1) (id := id) (old i q.1 q.2 hm)
    exact ⟨by rw [e1]; exact hm, e2⟩
  have bs : (pushed h (.cells m t cs)).base = h.base := rfl
  have nx : (pushed h (.cells m t cs)).next = h.next + 1 := rfl
  have wf := hR.wf.low
  refine ⟨fun i hi => freshMu_ne (by omega), ⟨⟨by rw [bs, nx]; omega⟩, fun i b d hm => ?_, fun i j b d e hi hj li lj hbj => ?_, fun i b d hm => ?_, fun i b d ccs tt fr hm hw => ?_, ?_⟩, ⟨p.frame.os, p.frame.tape, p.frame.output, hsz, fun b hlt _ => hb b hlt⟩, ⟨by rw [nx]; omega, bs, fun i hi _ => ?_, fun i hi => ?_, fun i hi hl => ?_⟩, fun i b d hi hm hlt hl => ?_⟩
  · by_cases e : i = h.next
    · subst e; rw [freshMu_n] at hm
      exact ⟨by rw [nx]; omega, (p.rel.dom id b d hm).2⟩
    · rw [(freshMu_ne e).1] at hm
      have := hR.dom i b d hm
      exact ⟨by rw [nx]; omega, by omega⟩
  · by_cases e1 : i = h.next <;> by_cases e2 : j = h.next
    · rw [e1, e2]
    · subst e1; rw [freshMu_n] at hi; rw [(freshMu_ne e2).1] at hj
      have := new b d hi; have := (hR.dom j b e hj).2; omega
    · subst e2; rw [freshMu_n] at hj; rw [(freshMu_ne e1).1] at hi
      have := new b e hj; have := (hR.dom i b d hi).2; omega
    · rw [(freshMu_ne e1).1] at hi; rw [(freshMu_ne e2).1] at hj
      rw [pushed_get, if_neg e1] at li; rw [pushed_get, if_neg e2] at lj
      exact hR.inj i j b d e hi hj li lj hbj
  · by_cases e : i = h.next
    · subst e; rw [freshMu_n] at hm
      have hk := p.rel.blk id b d hm
      have b0 : h1.base = 0 := p.grows.base
      rw [hg, (by rw [b0]; rfl : Nat.ble h1.base id = true)] at hk
      rw [pushed_get, if_pos rfl]
      exact (cells_flat hf hk).any
    · rw [(freshMu_ne e).1] at hm
      rw [pushed_get, if_neg e]
      exact (hR.blk i b d hm).mono le fun _ => hb b (hR.dom i b d hm).2
  · by_cases e : i = h.next
    · subst e; rw [freshMu_n] at hm
      show ccs.size = if h.next = h.next then μ1.sz id else μ.sz h.next
      rw [if_pos rfl]; exact p.rel.cnt id b d ccs tt fr hm hw
    · rw [(freshMu_ne e).1] at hm
      rw [(freshMu_ne e).2]
      rw [hb b (hR.dom i b d hm).2] at hw
      exact hR.cnt i b d ccs tt fr hm hw
  · exact hR.glb.step bs (fun i hi => by rw [pushed_get, if_neg (by omega)]) fun i hi => (freshMu_ne (by omega)).1
  · rw [pushed_get, if_neg (by omega)]
  · rw [pushed_get, if_neg (by omega)]
  · rw [pushed_get, if_neg (by omega)] at hl; exact hl
  · by_cases e : i = h.next
    · subst e; rw [freshMu_n] at hm
      have := new b d hm; omega
    · rw [(freshMu_ne e).1] at hm
      have := (hR.dom i b d hm).1; omega
/-- what a function of values that name no block answers, with a row that it made, over a greater heap -/
noncomputable def freshF (g : Fun) : Fun := fun as h k => AV.flatL as = true ∧ g as H0 fun r h1 => (r.flat = true ∧ k r h) ∨
  ∃ (id : Nat) (m : Bool) (t : Nat) (cs : List AV) (r0 : AV), r0.under 1 ∧ r = r0.ren (fun _ => id) ∧ h1.get id = .cells m t cs ∧ AV.flatL cs = true ∧ k (r0.ren fun _ => h.next) (pushed h (.cells m t cs))
theorem FunOk.fresh {P : Program} {f : FuncId} {g : Fun} (hg : FunOk P f g) : FunOk P f (freshF g) := by
  intro as h Q ⟨hf, e⟩ μ w args hR ha
  have flat : ∀ (μ1 : Mu) (h1 : H) (w' : World) (r : AV) (v : Value), Post noMu H0 w μ1 h1 w' → r.rel μ1 v → r.flat = true → r.rel μ v ∧ Post μ h w μ h w' := fun μ1 h1 w' r v p hv hu => by
    have hb : ∀ b, b < w.heap.size → w'.heap[b]? = w.heap[b]? := fun b hlt => p.frame.block b hlt fun id d _ h2 => by cases h2
    exact ⟨AV.flat_rel r v hu hv, ⟨fun _ _ => ⟨rfl, rfl⟩, hR.same p.frame.size hb, ⟨p.frame.os, p.frame.tape, p.frame.output, p.frame.size, fun b hlt _ => hb b hlt⟩, Grows.refl μ h, fun id b d hi hm => absurd (hR.dom id b d hm).1 (by omega)⟩⟩
  have own : ∀ (μ1 : Mu) (h1 : H) (w' : World) (id : Nat) (m : Bool) (t : Nat) (cs : List AV) (r0 : AV) (v : Value), Post noMu H0 w μ1 h1 w' → (r0.ren fun _ => id).rel μ1 v → r0.under 1 → h1.get id = .cells m t cs → AV.flatL cs = true →
      (r0.ren fun _ => h.next).rel (freshMu μ μ1 h.next id) v ∧ Post μ h w (freshMu μ μ1 h.next id) (pushed h (.cells m t cs)) w' := fun μ1 h1 w' id m t cs r0 v p hv hu hg hc => by
    refine ⟨AV.ren_rel (n := 1) r0 v hu (AV.rel_down (n := 1) (μ' := lendMu μ1 (fun _ => id) 1) (fun i hi => ⟨?_, ?_⟩) r0 v hu (AV.rel_ren (n := 1) r0 v hu hv)), fresh_post hR p hg hc⟩
    · rw [lendMu_lt hi, lendMu_lt hi, freshMu_n]
    · show μ1.sz id = if h.next = h.next then μ1.sz id else μ.sz h.next
      rw [if_pos rfl]
  rcases hg as H0 _ e noMu w args (rel0 w) (AV.flatL_rel as _ hf ha) with ⟨v, w', μ1, r, h1, q1, q2, q3, q4⟩ | ⟨q1, q2⟩
  · rcases q4 with ⟨q4, q5⟩ | ⟨id, m, t, cs, r0, hu, rfl, hg, hc, q5⟩
    · obtain ⟨r1, r2⟩ := flat μ1 h1 w' r v q3 q2 q4
      exact .inl ⟨v, w', μ, r, h, q1, r1, r2, q5⟩
    · obtain ⟨r1, r2⟩ := own μ1 h1 w' id m t cs r0 v q3 q2 hu hg hc
      exact .inl ⟨v, w', _, _, _, q1, r1, r2, q5⟩
  · refine .inr ⟨q1, Calls.mono q2 fun e w' ⟨v, μ1, r, h1, p1, p2, p3, p4⟩ => ?_⟩
    rcases p4 with ⟨p4, p5⟩ | ⟨id, m, t, cs, r0, hu, rfl, hg, hc, p5⟩
    · obtain ⟨r1, r2⟩ := flat μ1 h1 w' r v p3 p2 p4
      exact ⟨v, μ, r, h, p1, r1, r2, p5⟩
    · obtain ⟨r1, r2⟩ := own μ1 h1 w' id m t cs r0 v p3 p2 hu hg hc
      exact ⟨v, _, _, _, p1, r1, r2, p5⟩
end Go.Am

/- A range over a map whose rounds put its entries into another map: whatever the order. No condition. -/
namespace Go.Am
open Go
set_option linter.all false
theorem insC_cons (p q : AV × AV) (r : List (AV × AV)) : insC p (q :: r) = if keyLt p.1 q.1 = true then p :: q :: r else q :: insC p r := by
  rw [insC]; cases keyLt p.1 q.1 <;> rfl
/-- heap h: as hB, but that map m is shown as es, r is an iterator, and map f holds acc -/
structure Ins (m r f : Nat) (es0 : List (AV × AV)) (es : List (AV × AV × Nat)) (clock : Nat) (seen : List Nat) (acc : List (AV × AV)) (hB h : H) : Prop where
  mp : h.get m = .amap es clock
  it : h.get r = .miter (some m) clock seen clock
  fp : h.get f = .smap acc
  shown : Shown es0 es clock
  same : ∀ id, id ≠ m → id ≠ r → id ≠ f → h.get id = hB.get id
  base : h.base = hB.base
  next : h.next = r + 1
end Go.Am

/- A call may be run over a heap in which two blocks are given up: they stay what they were. No condition. -/
namespace Go.Am
open Go
set_option linter.all false
/-- h, two blocks given up -/
structure Hid (m r : Nat) (h hd : H) : Prop where
  next : hd.next = h.next
  base : hd.base = h.base
  gm : hd.get m = .dead
  gr : hd.get r = .dead
  get : ∀ id, id ≠ m → id ≠ r → hd.get id = h.get id
/-- h1, the two blocks as h has them -/
structure Res (m r : Nat) (h h1 h2 : H) : Prop where
  next : h2.next = h1.next
  base : h2.base = h1.base
  gm : h2.get m = h.get m
  gr : h2.get r = h.get r
  get : ∀ id, id ≠ m → id ≠ r → h2.get id = h1.get id
theorem Hid.live {m r : Nat} {h hd : H} (i : Hid m r h hd) {id : Nat} (hl : (hd.get id).live = true) : hd.get id = h.get id ∧ id ≠ m ∧ id ≠ r := by
  have h1 : id ≠ m := fun e => by subst e; rw [i.gm] at hl; cases hl
  have h2 : id ≠ r := fun e => by subst e; rw [i.gr] at hl; cases hl
  exact ⟨i.get id h1 h2, h1, h2⟩
theorem Hid.rel {μ : Mu} {m r : Nat} {h hd : H} {w : World} (i : Hid m r h hd) (hR : Rel μ h w) (hm : h.base ≤ m) (hr : h.base ≤ r) : Rel μ hd w := by
  refine ⟨⟨by rw [i.next, i.base]; exact hR.wf.low⟩, fun id b d h1 => by rw [i.next]; exact hR.dom id b d h1, fun a b c d e h1 h2 l1 l2 hb => ?_, fun id b d h1 => ?_, hR.cnt, hR.glb.step i.base (fun id hi => i.get id (by omega) (by omega)) fun _ _ => rfl⟩
  · rw [(i.live l1).1] at l1
    rw [(i.live l2).1] at l2
    rw [i.base] at hb
    exact hR.inj a b c d e h1 h2 l1 l2 hb
  · by_cases e1 : id = m
    · subst e1; rw [i.gm]; trivial
    · by_cases e2 : id = r
      · subst e2; rw [i.gr]; trivial
      · rw [i.get id e1 e2, i.base]; exact hR.blk id b d h1
theorem Hid.post {μ μ1 : Mu} {m r : Nat} {h hd h1 h2 : H} {w w' : World} (i : Hid m r h hd) (hR : Rel μ h w) (hm : h.base ≤ m) (hr : h.base ≤ r) (hml : m < h.next) (hrl : r < h.next) (p : Post μ hd w μ1 h1 w') (R : Res m r h h1 h2) : Post μ h w μ1 h2 w' := by
  have b1 : h1.base = h.base := p.grows.base.trans i.base
  have solo : ∀ x, x = m ∨ x = r → ∀ b d, μ x = some (b, d) → (h.get x).live = true → ∀ id d', μ id = some (b, d') → (hd.get id).live = true → False := fun x hx b d hq hl id d' hq' hl' => by
    obtain ⟨e1, e2, e3⟩ := i.live hl'
    rw [e1] at hl'
    have := hR.inj id x b d' d hq' hq hl' hl (by rcases hx with rfl | rfl <;> assumption)
    subst this
    rcases hx with rfl | rfl
    · exact e2 rfl
    · exact e3 rfl
  have same : ∀ x, x = m ∨ x = r → ∀ b d, μ x = some (b, d) → (h.get x).live = true → w'.heap[b]? = w.heap[b]? := fun x hx b d hq hl => p.frame.block b (hR.dom x b d hq).2 fun id d' _ hq' => by
    cases hlv : (hd.get id).live with
    | false => rfl
    | true => exact (solo x hx b d hq hl id d' hq' hlv).elim
  have old : ∀ x, x < h.next → μ1 x = μ x := fun x hx => (p.ext x (by rw [i.next]; exact hx)).1
  have lt : ∀ x, x = m ∨ x = r → x < h.next := fun x hx => by rcases hx with rfl | rfl <;> assumption
  have bs : ∀ x, x = m ∨ x = r → h.base ≤ x := fun x hx => by rcases hx with rfl | rfl <;> assumption
  have gx : ∀ x, x = m ∨ x = r → h2.get x = h.get x := fun x hx => by rcases hx with rfl | rfl; exact R.gm; exact R.gr
  have no : ∀ x, ¬ (x = m ∨ x = r) → h2.get x = h1.get x := fun x hx => R.get x (fun e => hx (.inl e)) fun e => hx (.inr e)
  -- no other live block lies where m or r lies
  have apart : ∀ x, x = m ∨ x = r → ∀ b d, μ1 x = some (b, d) → (h2.get x).live = true → ∀ j e, ¬ (j = m ∨ j = r) → μ1 j = some (b, e) → (h2.get j).live = true → False := fun x hx b d hq hl j e hj hq' hl' => by
    rw [old x (lt x hx)] at hq
    rw [gx x hx] at hl
    rw [no j hj] at hl'
    by_cases hjn : j < h.next
    · rw [old j hjn] at hq'
      exact solo x hx b d hq hl j e hq' (p.grows.dead j (by rw [i.next]; exact hjn) hl')
    · obtain ⟨id0, d0, _, q1, q2⟩ := p.fresh j b e (by rw [i.next]; omega) hq' (hR.dom x b d hq).2 hl'
      exact solo x hx b d hq hl id0 d0 q1 q2
  have le : Le μ μ1 := hR.ext_le (by have := p.ext; rw [i.next] at this; exact this)
  refine ⟨by have := p.ext; rw [i.next] at this; exact this, ⟨⟨by rw [R.next, R.base]; exact p.rel.wf.low⟩, fun id b d hq => by rw [R.next]; exact p.rel.dom id b d hq, fun a j b d e ha hj la lj hbj => ?_, fun id b d hq => ?_, p.rel.cnt, p.rel.glb.step R.base (fun id hi => R.get id (by omega) (by omega)) fun _ _ => rfl⟩,
    ⟨p.frame.os, p.frame.tape, p.frame.output, p.frame.size, fun b hb hn => p.frame.block b hb fun id d hi hq => ?_⟩,
    ⟨by rw [R.next, ← i.next]; exact p.grows.next, R.base.trans b1, fun id hi hq => ?_, fun id hi => ?_, fun id hi hl => ?_⟩, fun id b d hi hq hb hl => ?_⟩
  · by_cases ca : a = m ∨ a = r <;> by_cases cj : j = m ∨ j = r
    · rw [old a (lt a ca)] at ha
      rw [old j (lt j cj)] at hj
      rw [gx a ca] at la
      rw [gx j cj] at lj
      exact hR.inj a j b d e ha hj la lj (bs j cj)
    · exact (apart a ca b d ha la j e cj hj lj).elim
    · exact (apart j cj b e hj lj a d ca ha la).elim
    · rw [no a ca] at la
      rw [no j cj] at lj
      rw [R.base] at hbj
      exact p.rel.inj a j b d e ha hj la lj hbj
  · by_cases c : id = m ∨ id = r
    · rw [gx id c, R.base, b1]
      have hq0 := hq
      rw [old id (lt id c)] at hq0
      cases hl : (h.get id).live with
      | false =>
        have : h.get id = .dead := by
          revert hl; cases h.get id <;> first | (intro _; rfl) | (intro hl; cases hl)
        rw [this]; trivial
      | true => exact (hR.blk id b d hq0).mono le fun _ => same id c b d hq0 hl
    · rw [no id c, R.base]; exact p.rel.blk id b d hq
  · cases hlv : (hd.get id).live with
    | false => rfl
    | true =>
      obtain ⟨e1, _, _⟩ := i.live hlv
      have := hn id d (by rw [← i.base]; exact hi) hq
      rw [← e1, hlv] at this; cases this
  · by_cases c : id = m ∨ id = r
    · exact gx id c
    · rw [no id c, p.grows.keep id (by rw [i.next]; exact hi) hq]
      exact i.get id (fun e => c (.inl e)) fun e => c (.inr e)
  · have c : ¬ (id = m ∨ id = r) := by rintro (rfl | rfl) <;> omega
    rw [no id c, p.grows.low id (by rw [i.base]; exact hi)]
    exact i.get id (fun e => c (.inl e)) fun e => c (.inr e)
  · by_cases c : id = m ∨ id = r
    · rw [gx id c] at hl; exact hl
    · rw [no id c] at hl
      have hlv := p.grows.dead id (by rw [i.next]; exact hi) hl
      rw [← (i.live hlv).1]; exact hlv
  · have c : ¬ (id = m ∨ id = r) := by rintro (rfl | rfl) <;> omega
    rw [no id c] at hl
    obtain ⟨id0, d0, q1, q2, q3⟩ := p.fresh id b d (by rw [i.next]; exact hi) hq hb hl
    exact ⟨id0, d0, by rw [← i.base]; exact q1, q2, by rw [← (i.live q3).1]; exact q3⟩
end Go.Am

/- A range over a map of at most one entry, in a function that is printed but for that range: what is asked of callees may be weakened. No condition. -/
namespace Go.Am
open Go
set_option linter.all false
/-- g, of which less may be asked -/
noncomputable def up0 (g : Fun) : Fun := fun as h k => ∃ K, g as h K ∧ ∀ r h', K r h' → k r h'
theorem FunOk.up0 {P : Program} {f : FuncId} {g : Fun} (hg : FunOk P f g) : FunOk P f (up0 g) := hg.up fun _ _ _ e => e
/-- two heaps but for two blocks, that no one else reads -/
structure But (m r : Nat) (h h' : H) : Prop where
  next : h'.next = h.next
  base : h'.base = h.base
  get : ∀ id, id ≠ m → id ≠ r → h'.get id = h.get id
theorem But.push {m r : Nat} {h h' : H} (b : But m r h h') {k : Blk} {n : Nat} {g : H} (hw : h.Wf) (hm : m < h.next) (hr : r < h.next) (e : h.push k = some (n, g)) : ∃ g', h'.push k = some (n, g') ∧ But m r g g' ∧ g.Wf ∧ g'.get m = h'.get m ∧ g'.get r = h'.get r ∧ m < g.next ∧ r < g.next ∧ g.base = h.base := by
  have hw' : h'.Wf := ⟨by rw [b.next, b.base]; exact hw.low⟩
  obtain ⟨g', p⟩ := push_ok h' k
  obtain ⟨e1, e2, e3, e4, e5⟩ := H.push_some e hw
  obtain ⟨_, f2, f3, f4, f5⟩ := H.push_some p hw'
  subst e1
  rw [b.next] at p f2 f5
  refine ⟨g', p, ⟨by rw [f2, e2], by rw [f3, e3, b.base], fun id h1 h2 => ?_⟩, e4, ?_, ?_, by omega, by omega, e3⟩
  · rw [f5, e5]; split
    · rfl
    · exact b.get id h1 h2
  · rw [f5, if_neg (by omega)]
  · rw [f5, if_neg (by omega)]
/-- the end of a range: the map is told in an order of our own again, the iterator given up -/
theorem Iter.last {m r : Nat} {es0 : List (AV × AV)} {es : List (AV × AV × Nat)} {clock : Nat} {seen : List Nat} {h hb : H} (i : Iter m r es0 es clock seen h) (hall : ∀ e ∈ es, e.2.2 ∈ seen) (hm : m < h.next) (hmb : h.base ≤ m) (hr : r < h.next) (hrb : h.base ≤ r)
    (b : But m r hb h) (gm : hb.get m = .smap es0) (gr : hb.get r = .dead) {k : AV → H → Prop} (q : k (.tuple [.bool false]) hb) : aNext (.ptr r 0) h k := by
  refine i.nextA (fun e he hn => absurd (hall e he) hn) fun _ => ?_
  obtain ⟨h1, p1⟩ := put_ok (h := h) (i := m) (.smap es0) hm hmb
  obtain ⟨_, _, n1, b1, g1⟩ := hput_get p1
  obtain ⟨h2, p2⟩ := put_ok (h := h1) (i := r) .dead (by omega) (by omega)
  obtain ⟨_, _, n2, b2, g2⟩ := hput_get p2
  refine ⟨h1, h2, hb, p1, p2, ⟨by rw [n2, n1, b.next], by rw [b2, b1, b.base], fun id => ?_⟩, q⟩
  rw [g2, g1]
  by_cases e1 : id = r
  · subst e1; rw [if_pos rfl]; exact gr
  · rw [if_neg e1]
    by_cases e2 : id = m
    · subst e2; rw [if_pos rfl]; exact gm
    · rw [if_neg e2]; exact (b.get id e2 e1).symm
/-- the first round of a range over one entry -/
theorem Iter.first {m r : Nat} {a b : AV} {s clock : Nat} {h hb : H} (i : Iter m r [(a, b)] [(a, b, s)] clock [] h) (hr : r < h.next) (hrb : h.base ≤ r) (bt : But m r hb h) {k : AV → H → Prop}
    (q : ∀ h', Iter m r [(a, b)] [(a, b, s)] clock [s] h' → aEntry (.ptr r 0) h' = some (.tuple [a, b]) → But m r hb h' → h'.next = h.next → h'.base = h.base → k (.tuple [.bool true, a, b]) h') : aNext (.ptr r 0) h k := by
  refine i.nextA (fun e he _ => ?_) (fun hall => by have := hall (a, b, s) List.mem_cons_self; cases this)
  obtain rfl : e = (a, b, s) := by simpa using he
  obtain ⟨h', p⟩ := put_ok (h := h) (i := r) (.miter (some m) clock ([] ++ [s]) clock) hr hrb
  obtain ⟨_, _, n1, b1, g1⟩ := hput_get p
  have i' : Iter m r [(a, b)] [(a, b, s)] clock ([] ++ [s]) h' := i.step p
  exact ⟨h', p, q h' i' (i'.entry (e := (a, b, s)) List.mem_cons_self) ⟨by rw [n1, bt.next], by rw [b1, bt.base], fun id e1 e2 => by rw [g1, if_neg e2]; exact bt.get id e1 e2⟩ n1 b1⟩
end Go.Am

/- A range over a map of which just one entry acts, whatever the order. No condition. -/
namespace Go.Am
open Go
set_option linter.all false
/-- the heap hc of a run, in which the map is told in an order of our own and the iterator is given up -/
structure Told (m r : Nat) (es0 : List (AV × AV)) (hc : H) : Prop where
  gm : hc.get m = .smap es0
  gr : hc.get r = .dead
  mn : m < hc.next
  mb : hc.base ≤ m
  rn : r < hc.next
  rb : hc.base ≤ r
theorem But.put {m r : Nat} {h h' h2 : H} {k : Blk} (b : But m r h h') (p : h'.put r k = some h2) : But m r h h2 := by
  obtain ⟨_, _, n1, b1, g1⟩ := hput_get p
  exact ⟨by rw [n1, b.next], by rw [b1, b.base], fun id e1 e2 => by rw [g1, if_neg e2]; exact b.get id e1 e2⟩
end Go.Am

/- Behind a call, slices that stand in a block to which an argument points may be told with less capacity. No condition. -/
namespace Go.Am
open Go
set_option linter.all false
/-- of a slice's capacity no more is told than its length -/
def cutS : AV → AV
  | .slice id off len cap es ex => .slice id off len len es false
  | a => a
theorem cutS_rel {μ : Mu} {a : AV} {v : Value} (h : AV.rel μ a v) : AV.rel μ (cutS a) v := by
  cases a <;> first | exact h | skip
  simp only [cutS, AV.rel] at h ⊢
  obtain ⟨b, d, c, o, a, h1, h2, h3, h4, h5, h6, h7, h8, h9⟩ := h
  exact ⟨b, d, c, o, a, h1, h2, h3, fun hl => h4 (by omega), by omega, fun e => (by cases e), Nat.le_refl _, h8, h9⟩
structure Weak (b : Nat) (h1 h2 : H) : Prop where
  next : h2.next = h1.next
  base : h2.base = h1.base
  get : ∀ id, id ≠ b → h2.get id = h1.get id
  at_ : ∃ m t cs cs', h1.get b = .cells m t cs ∧ h2.get b = .cells m t cs' ∧ ∀ (i : Nat) (a' : AV), cs'[i]? = some a' → ∃ a, cs[i]? = some a ∧ (a' = a ∨ a' = cutS a)
theorem Weak.live {b : Nat} {h1 h2 : H} (W : Weak b h1 h2) {id : Nat} (hl : (h2.get id).live = true) : (h1.get id).live = true := by
  by_cases e : id = b
  · subst e
    obtain ⟨m, t, cs, cs', e1, e2, _⟩ := W.at_
    rw [e1]; rfl
  · rw [← W.get id e]; exact hl
theorem Weak.post {μ μ1 : Mu} {b : Nat} {h h1 h2 : H} {w w' : World} (W : Weak b h1 h2) (p : Post μ h w μ1 h1 w') (hb : h.base ≤ b) (hm : ∃ q, μ b = some q) : Post μ h w μ1 h2 w' := by
  have bs : h1.base = h.base := p.grows.base
  refine ⟨p.ext, ⟨⟨by rw [W.next, W.base]; exact p.rel.wf.low⟩, fun id x d hq => by rw [W.next]; exact p.rel.dom id x d hq, fun i j x d e hi hj li lj hbj => p.rel.inj i j x d e hi hj (W.live li) (W.live lj) (by rw [← W.base]; exact hbj), fun id x d hq => ?_, p.rel.cnt, p.rel.glb.step W.base (fun id hi => W.get id (by omega)) fun _ _ => rfl⟩, p.frame,
    ⟨by rw [W.next]; exact p.grows.next, W.base.trans bs, fun id hi hq => ?_, fun id hi => ?_, fun id hi hl => p.grows.dead id hi (W.live hl)⟩, fun id x d hi hq hx hl => p.fresh id x d hi hq hx (W.live hl)⟩
  · by_cases e : id = b
    · subst e
      obtain ⟨m, t, cs, cs', e1, e2, e3⟩ := W.at_
      have hk := p.rel.blk id x d hq
      rw [e1] at hk
      rw [e2, W.base]
      obtain ⟨ccs, fr, r1, r2, r3, r4⟩ := hk
      refine ⟨ccs, fr, r1, fun i a' ha => ?_, r3, r4⟩
      obtain ⟨a, ha1, ha2⟩ := e3 i a' ha
      obtain ⟨v, hv, hr⟩ := r2 i a ha1
      rcases ha2 with rfl | rfl
      · exact ⟨v, hv, hr⟩
      · exact ⟨v, hv, cutS_rel hr⟩
    · rw [W.get id e, W.base]; exact p.rel.blk id x d hq
  · have : id ≠ b := fun e => by subst e; obtain ⟨q, e⟩ := hm; rw [e] at hq; cases hq
    rw [W.get id this]; exact p.grows.keep id hi hq
  · rw [W.get id (by omega)]; exact p.grows.low id hi
/-- g, behind which slices in the first argument's block may be told with less capacity -/
noncomputable def weakF (g : Fun) : Fun := fun as h k => match as with
  | .ptr b _ :: _ => h.base ≤ b ∧ g as h fun r h1 => ∃ h2, Weak b h1 h2 ∧ k r h2
  | _ => False
theorem FunOk.weak {P : Program} {f : FuncId} {g : Fun} (hg : FunOk P f g) : FunOk P f (weakF g) := by
  intro as h Q e μ w args hR ha
  unfold weakF at e
  split at e
  · rename_i b o r
    obtain ⟨hb, e⟩ := e
    have hm : ∃ q, μ b = some q := by
      obtain ⟨v, _, _, hx, _⟩ := AV.relL_cons.1 ha
      simp only [AV.rel] at hx
      obtain ⟨x, d, e1, _⟩ := hx
      exact ⟨_, e1⟩
    rcases hg _ h _ e μ w args hR ha with ⟨v, w', μ1, x, h1, q1, q2, q3, h2, q4, q5⟩ | ⟨q1, q2⟩
    · exact .inl ⟨v, w', μ1, x, h2, q1, q2, q4.post q3 hb hm, q5⟩
    · exact .inr ⟨q1, Calls.mono q2 fun e w' ⟨v, μ1, x, h1, p1, p2, p3, h2, p4, p5⟩ => ⟨v, μ1, x, h2, p1, p2, p4.post p3 hb hm, p5⟩⟩
  · exact e.elim
end Go.Am

/- A function without arguments that hands back a row of texts that it made: told by one run. No condition. -/
namespace Go.Am
open Go
set_option linter.all false
end Go.Am

/- Entries of the model without Go text: internal/bytealg.IndexByteString. No condition. -/
namespace Go.Am
open Go
set_option linter.all false
/-- internal/bytealg.MakeNoZero: of what it holds nothing is told -/
noncomputable def mnzF (e : Nat) : Fun := fun l h k => match l with
  | [.int .i64 n] => Int.rec (motive := fun _ => Prop) (fun n => ck (Nat.ble n 1099511627776) (op2 (aPush (.bytes e 0 false ⟨0, 0⟩) n 1 h) k)) (fun _ => False) n
  | _ => False
theorem makeNoZero_ok {P : Program} {f : FuncId} {fn : Func} {t e : TypeId} (hf : P.funcs[f]? = some fn) (hn : (fn.name == "runtime.NumGoroutine") = false) (hb : fn.body.isNone = true) (h1 : Extern.findNext fn = none) (h2 : Extern.find fn = some (Extern.BytealgMakeNoZero.makeNoZero fn.params #[t])) (ht : P.underlying t = some (.slice e)) : FunOk P f (mnzF e) := by
  intro l h Q q μ w args hR ha
  left
  unfold mnzF at q
  split at q
  · rename_i n
    obtain ⟨v, _, hv, hx, hn'⟩ := AV.relL_cons.1 ha
    rw [AV.relL_nil] at hn'; subst hn'
    have : args = #[v] := Array.toList_inj.1 hv
    subst this
    simp only [AV.rel] at hx
    subst hx
    cases n with
    | negSucc m => exact q.elim
    | ofNat n =>
      have q : ck (Nat.ble n 1099511627776) (op2 (aPush (.bytes e 0 false ⟨0, 0⟩) n 1 h) Q) := q
      rw [ck_iff, ble_iff] at q
      obtain ⟨hn2, q⟩ := q
      obtain ⟨r, h', hs, hK⟩ := op2_some q
      obtain ⟨cs, hrun, hle, _⟩ := Go.Lib.run_makeNoZero (P := P) w fn.params t e ht n (by omega)
      obtain ⟨μ', q1, q2⟩ := push_new (cap := cs.size) (w' := w.drew.drew.alloc (.cells cs e)) hR hs rfl rfl rfl rfl ⟨cs, (0, 0), [], Array.getElem?_push_size, rfl, fun i x hi => by simp at hi, fun _ o _ _ hc => by omega, fun _ => .inl rfl⟩ hle (by omega)
      · refine ⟨_, _, μ', r, h', ?_, q1, q2, hK⟩
        rw [beq_eq_false_iff_ne] at hn
        rw [Option.isNone_iff_eq_none] at hb
        obtain ⟨va, hva⟩ : ∃ va, va = Value.int .i64 (Int.ofNat n) := ⟨_, rfl⟩
        have hrun' : (Extern.BytealgMakeNoZero.makeNoZero fn.params #[t] #[va]).run P w = .ok (.slice (some ⟨w.heap.size, 0, none⟩) n cs.size) (w.drew.drew.alloc (.cells cs e)) := by rw [hva]; exact hrun
        rw [← hva]
        clear hva
        simp [callFunc, hf, hn, hb, h1, h2, hrun']
  · exact q.elim
end Go.Am

/- A function of values that name no block, over package variables: a row that it made, over a greater heap. No condition. -/
namespace Go.Am
open Go
set_option linter.all false
/-- a small heap, of some of the package variables of h -/
structure Part (h0 h : H) : Prop where
  full : h0.base = h0.next
  le : h0.next ≤ h.base
  get : ∀ id, id < h0.next → h0.get id = .dead ∨ ∃ t cs, h0.get id = .cells false t cs ∧ AV.flatL cs = true ∧ h.get id = .cells false t cs
end Go.Am

/- A callee's summary that knows the outcomes of some calls by heart; what a call made and nobody reads is given up. No condition. -/
namespace Go.Am
open Go
set_option linter.all false
mutual
noncomputable def eqV : AV → AV → Bool
  | .bool a, .bool b => Bool.rec (Bool.not b) b a
  | .int k a, .int k' b => Bool.and (decide (k = k')) (eqI a b)
  | .str a, .str b => Str.beq a b
  | .nilp, .nilp => true
  | .ptr a b, .ptr c d => Bool.and (Nat.beq a c) (Nat.beq b d)
  | .nils, .nils => true
  | .slice a b c d e f, .slice a' b' c' d' e' f' => Bool.and (Nat.beq a a') (Bool.and (Nat.beq b b') (Bool.and (Nat.beq c c') (Bool.and (Nat.beq d d') (Bool.and (Nat.beq e e') (Bool.rec (Bool.not f') f' f)))))
  | .nilm, .nilm => true
  | .map a, .map b => Nat.beq a b
  | .nilf, .nilf => true
  | .nili, .nili => true
  | .func (.func f) as cs, .func (.func g) bs ds => Bool.and (Nat.beq f g) (Bool.and (eqVs as bs) (eqVs cs ds))
  | .iface t a, .iface u b => Bool.and (Nat.beq t u) (eqV a b)
  | .glob a b, .glob c d => Bool.and (Nat.beq a c) (Nat.beq b d)
  | .agg as, .agg bs => eqVs as bs
  | .tuple as, .tuple bs => eqVs as bs
  | .junk, .junk => true
  | _, _ => false
noncomputable def eqVs : List AV → List AV → Bool
  | [], [] => true
  | a :: as, b :: bs => Bool.and (eqV a b) (eqVs as bs)
  | _, _ => false
end
noncomputable def eqPs : List (AV × AV) → List (AV × AV) → Bool
  | [], [] => true
  | a :: as, b :: bs => Bool.and (eqV a.1 b.1) (Bool.and (eqV a.2 b.2) (eqPs as bs))
  | _, _ => false
def isDeadB : Blk → Bool
  | .dead => true
  | _ => false
noncomputable def eqB : Blk → Blk → Bool
  | .dead, .dead => true
  | .cells m t cs, .cells m' t' cs' => Bool.and (Bool.rec (Bool.not m') m' m) (Bool.and (Nat.beq t t') (eqVs cs cs'))
  | .bytes t f s x, .bytes t' f' s' x' => Bool.and (Nat.beq t t') (Bool.and (Nat.beq f f') (Bool.and (Bool.rec (Bool.not s') s' s) (Str.beq x x')))
  | .smap es, .smap es' => eqPs es es'
  | .defd a, .defd b => Bool.rec (Bool.not b) b a
  | _, _ => false
/-- the second tree is the first, but for places from n on that are given up; place k of the two is number a + b * k -/
noncomputable def deadT (n : Nat) : Tr → Tr → Nat → Nat → Bool
  | .lf, .lf, _, _ => true
  | .nd v l r, .lf, a, b => Bool.and (Bool.rec (isDeadB v) true (Nat.ble n a)) (Bool.and (deadT n l .lf (Nat.add a b) (Nat.mul 2 b)) (deadT n r .lf (Nat.add a (Nat.mul 2 b)) (Nat.mul 2 b)))
  | .nd v l r, .nd v' l' r', a, b => Bool.and (Bool.rec (Bool.and (isDeadB v') (Nat.ble n a)) true (eqB v v')) (Bool.and (deadT n l l' (Nat.add a b) (Nat.mul 2 b)) (deadT n r r' (Nat.add a (Nat.mul 2 b)) (Nat.mul 2 b)))
  | _, _, _, _ => false
noncomputable def deadOk (n : Nat) (h1 h2 : H) : Bool := Bool.and (Nat.beq h2.next h1.next) (Bool.and (Nat.beq h2.base h1.base) (deadT n h1.mem h2.mem 0 1))
structure Memo where
  A : List AV
  Hi : H
  V : AV
  Ho : H
/-- such a call: what comes out is what is told -/
structure MemoOk (g : Fun) (m : Memo) : Prop where
  ok : ∀ k : AV → H → Prop, k m.V m.Ho → g m.A m.Hi fun r h1 => ck (eqV r m.V) (ck (deadOk m.Hi.next h1 m.Ho) (k m.V m.Ho))
end Go.Am
