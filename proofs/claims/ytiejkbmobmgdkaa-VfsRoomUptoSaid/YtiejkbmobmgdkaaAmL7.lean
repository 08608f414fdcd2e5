/- What code comes to over an abstract heap, and that this is sound: part 7. No condition. -/
import Derived.Test.YtiejkbmobmgdkaaAmL6
import Derived.ProofKit
import Derived.WideShapes
import Derived.OpenShut
import Derived.LaidLaws
set_option linter.all false
/- A table of types, checked against the program's own. -/
namespace Go.Am
open Go

def zrel : AV → Value → Bool
  | .bool a, .bool b => a == b
  | .int k n, .int k' m => decide (k = k') && n == m
  | .str s, .string b => b.data.toList.isEmpty && s.len == 0 && s.val == 0
  | .nilp, .pointer none => true
  | .nils, .slice none 0 0 => true
  | .nilm, .map none => true
  | .nilf, .nilFunc => true
  | .nili, .nilIface => true
  | .junk, _ => true
  | _, _ => false
def zrels : List AV → List Value → Bool
  | [], [] => true
  | a :: as, v :: vs => zrel a v && zrels as vs
  | _, _ => false
theorem zrel_ok {μ : Mu} {a : AV} {v : Value} (h : zrel a v = true) : a.rel μ v := by
  unfold zrel at h
  split at h <;> simp only [AV.rel, Bool.and_eq_true, beq_iff_eq, decide_eq_true_eq, Bool.false_eq_true] at h ⊢
  · rw [h]
  · rw [h.1, h.2]
  · rename_i s b
    refine ⟨b, rfl, ?_⟩
    obtain ⟨⟨h1, h2⟩, h3⟩ := h
    rw [List.isEmpty_iff] at h1
    rw [h1]
    cases s; simp only at h2 h3; subst h2 h3; rfl
theorem zrels_ok {μ : Mu} : ∀ {as : List AV} {vs : List Value}, zrels as vs = true → AV.relL μ as vs
  | [], [], _ => AV.relL_nil.2 rfl
  | a :: as, v :: vs, h => by
    simp only [zrels, Bool.and_eq_true] at h
    exact AV.relL_cons.2 ⟨v, vs, rfl, zrel_ok h.1, zrels_ok h.2⟩
  | [], _ :: _, h => by cases h
  | _ :: _, [], h => by cases h

def kdB : Kd → TypeDesc → Bool
  | .bool, .bool => true
  | .int k, .int k' => decide (k = k')
  | .str, .string => true
  | .unsafe_, .unsafePointer => true
  | .ptr e, .pointer e' => Nat.beq e e'
  | .slice e, .slice e' => Nat.beq e e'
  | .arr n e, .array n' e' => Nat.beq n n' && Nat.beq e e'
  | .struct fs, .struct fields => decide (fs = fields.toList.map (fun f => (f.offset, f.type)))
  | .map k e, .map k' e' => Nat.beq k k' && Nat.beq e e'
  | .func, .func _ _ _ => true
  | .iface, .interface _ => true
  | _, _ => false
theorem kdB_ok {k : Kd} {d : TypeDesc} (h : kdB k d = true) : KdRel k d := by
  unfold kdB at h
  split at h <;> simp only [Bool.and_eq_true, Nat.beq_eq, decide_eq_true_eq, Bool.false_eq_true] at h
  · rfl
  · rw [h]; rfl
  · rfl
  · rfl
  · rw [h]; rfl
  · rw [h]; rfl
  · rw [h.1, h.2]; rfl
  · exact ⟨_, rfl, h⟩
  · rw [h.1, h.2]; rfl
  · exact ⟨_, _, _, rfl⟩
  · exact ⟨_, rfl⟩

def aggB : Value → Bool
  | .agg _ => true
  | _ => false
def chkInfo (ti : TI) (i : TypeInfo) : Bool :=
  i.size == ti.size && i.bytes == ti.bytes && (!ti.kd.simple || i.comparable) && (match i.zero with
    | some z => zrels ti.zero z.cells.toList && (ti.kd.agg == aggB z)
    | none => false)
def chkEq (P : Program) (t : Nat) (d : TypeDesc) : Bool :=
  !(P.eqGuardType P.depth t) && !(P.stoodInHeld t) && (match d with
    | .struct fs => fs.toList.all fun f => f.name != "_"
    | _ => true)
def chkTI (P : Program) (t : Nat) (ti : TI) : Bool :=
  match P.info? t, P.underlying t with
  | some i, some d => chkInfo ti i && kdB ti.kd d && (!ti.eqp || chkEq P t d)
  | _, _ => false
theorem chkTI_ok {P : Program} {t : Nat} {ti : TI} (h : chkTI P t ti = true) : TIRel P t ti := by
  unfold chkTI at h
  split at h
  · rename_i i d hi hd
    simp only [Bool.and_eq_true] at h
    obtain ⟨⟨h1, h2⟩, h3⟩ := h
    unfold chkInfo at h1
    simp only [Bool.and_eq_true, beq_iff_eq] at h1
    obtain ⟨⟨⟨s1, s2⟩, s4⟩, s3⟩ := h1
    split at s3
    · rename_i z hz
      simp only [Bool.and_eq_true, beq_iff_eq] at s3
      refine ⟨⟨i, z, hi, s1, s2, hz, zrels_ok s3.1, fun ha => ?_⟩, ⟨d, hd, kdB_ok h2⟩, fun ha i' z' hi' hz' => ?_, fun hs => ⟨i, hi, by rw [hs] at s4; simpa using s4⟩, fun he => ?_⟩
      · have q := s3.2.symm; rw [ha] at q
        cases z <;> simp only [aggB, Bool.false_eq_true] at q
        exact ⟨_, rfl⟩
      · rw [hi] at hi'; injection hi' with hi'; subst hi'
        rw [hz] at hz'; injection hz' with hz'; subst hz'
        have q := s3.2.symm; rw [ha] at q
        cases z <;> first | rfl | (simp only [aggB, Bool.true_eq_false] at q)
      · rw [he] at h3
        simp only [Bool.not_true, Bool.false_or] at h3
        unfold chkEq at h3
        simp only [Bool.and_eq_true, Bool.not_eq_true'] at h3
        refine ⟨h3.1.1, h3.1.2, fun fs hfs f hf => ?_⟩
        rw [hd] at hfs; injection hfs with hfs; subst hfs
        have := h3.2
        simp only [List.all_eq_true, bne_iff_ne, ne_eq] at this
        exact this f (by simpa using hf)
    · cases s3
  · cases h
/-- from row k on -/
def chkL (P : Program) : Nat → List TI → Bool
  | _, [] => true
  | k, ti :: r => (!ti.kd.known || chkTI P k ti) && chkL P (k + 1) r
noncomputable def tyOf (L : List TI) : Ty := fun t => lget ⟨.other, 0, 0, [], false⟩ L t
theorem chkL_ok {P : Program} : ∀ (L : List TI) (k t : Nat), chkL P k L = true → (lget ⟨.other, 0, 0, [], false⟩ L t).kd.known = true → TIRel P (k + t) (lget ⟨.other, 0, 0, [], false⟩ L t)
  | [], k, t, _, h => by rw [lget_eq] at h; simp [Kd.known] at h
  | ti :: r, k, 0, h, hk => by
    simp only [chkL, Bool.and_eq_true, Bool.or_eq_true, Bool.not_eq_true'] at h
    rcases h.1 with q | q
    · have : ti.kd.known = true := hk
      rw [this] at q; cases q
    · exact chkTI_ok q
  | ti :: r, k, t + 1, h, hk => by
    simp only [chkL, Bool.and_eq_true] at h
    have := chkL_ok r (k + 1) t h.2 hk
    rwa [show k + 1 + t = k + (t + 1) from by omega] at this
theorem tyOk_of {P : Program} {L : List TI} (h : chkL P 0 L = true) : TyOk P (tyOf L) := fun t ht => by
  have := chkL_ok L 0 t h ht
  rwa [Nat.zero_add] at this
end Go.Am

/- A table of functions. -/
namespace Go.Am
open Go

def fls : Fun := fun _ _ _ => False
noncomputable def tab : List (Nat × Fun) → Nat → Fun
  | [], _ => fls
  | p :: r, f => Bool.rec (motive := fun _ => Fun) (tab r f) p.2 (Nat.beq f p.1)
def noCode : Code → Ks → List AV → List Dfr → H → Prop := fun _ _ _ _ _ => False
noncomputable def gam (J : Joins) (l : List (Nat × Fun)) : Gam := ⟨J, tab l, fun _ => fls, fun _ => fls, noCode⟩
/-- the same, with functions that are ranged over, and the code of rounds -/
noncomputable def gamI (J : Joins) (l li : List (Nat × Fun)) (cd : Code → Ks → List AV → List Dfr → H → Prop) : Gam := ⟨J, tab l, tab li, fun _ => fls, cd⟩
def TabOk (ok : Nat → Fun → Prop) (l : List (Nat × Fun)) : Prop := ∀ f, ok f (tab l f)
theorem tab_nil {ok : Nat → Fun → Prop} (h : ∀ f, ok f fls) : TabOk ok [] := h
theorem tab_cons {ok : Nat → Fun → Prop} {f : Nat} {g : Fun} {l : List (Nat × Fun)} (h : ok f g) (hl : TabOk ok l) : TabOk ok ((f, g) :: l) := fun f' => by
  show ok f' (Bool.rec (motive := fun _ => Fun) (tab l f') g (Nat.beq f' f))
  cases e : Nat.beq f' f with
  | true => rw [Nat.beq_eq] at e; subst e; exact h
  | false => exact hl f'
theorem fls_fun {P : Program} (f : Nat) : FunOk P f fls := fun _ _ _ e => e.elim
theorem fls_it {P : Program} (f : Nat) : ItOk P f fls := fun _ _ _ e => e.elim
theorem fls_dfn {P : Program} (f : Nat) : DFunOk P f fls := fun _ _ _ e => e.elim
theorem noCode_ok {P : Program} : CodeOk P noCode := fun _ _ _ _ _ e => e.elim
theorem gam_ok {P : Program} {J : Joins} {l : List (Nat × Fun)} (h : TabOk (FunOk P) l) : GamOk P (gam J l) := ⟨h, fls_it, fls_dfn, noCode_ok⟩
theorem gamI_ok {P : Program} {J : Joins} {l li : List (Nat × Fun)} {cd : Code → Ks → List AV → List Dfr → H → Prop} (h : TabOk (FunOk P) l) (hi : TabOk (ItOk P) li) (hc : CodeOk P cd) : GamOk P (gamI J l li cd) := ⟨h, hi, fls_dfn, hc⟩
theorem FunOk.imp {P : Program} {f : Nat} {g g' : Fun} (h : FunOk P f g) (hi : ∀ as hh k, g' as hh k → g as hh k) : FunOk P f g' := fun as hh Q e μ w args hR ha => h as hh Q (hi _ _ _ e) μ w args hR ha
theorem ItOk.imp {P : Program} {f : Nat} {g g' : Fun} (h : ItOk P f g) (hi : ∀ as hh k, g' as hh k → g as hh k) : ItOk P f g' := fun as hh Q e μ w args hR ha => h as hh Q (hi _ _ _ e) μ w args hR ha
theorem DFunOk.imp {P : Program} {f : Nat} {g g' : Fun} (h : DFunOk P f g) (hi : ∀ as hh k, g' as hh k → g as hh k) : DFunOk P f g' := fun as hh Q e μ w args hR ha => h as hh Q (hi _ _ _ e) μ w args hR ha
/-- maps.clone -/
noncomputable def cloneF : Fun := fun as h k => match as with
  | [.iface t (.map id)] => asMap (h.get id) (fun es clock => pushK (.amap es clock) h fun n h' => k (.iface t (.map n)) h') fun es => pushK (.smap es) h fun n h' => k (.iface t (.map n)) h'
  | _ => False
where
  asMap (b : Blk) (k : List (AV × AV × Nat) → Nat → Prop) (k2 : List (AV × AV) → Prop) : Prop :=
    match b with
    | .amap es clock => k es clock
    | .smap es => k2 es
    | _ => False
theorem cloneF_ok {P : Program} {f : FuncId} {fn : Func} (hf : P.funcs[f]? = some fn) (hn : (fn.name == "runtime.NumGoroutine") = false) (hb : fn.body.isNone = true) (h1 : Extern.findNext fn = none) (h2 : Extern.find fn = some Extern.MapsClone.clone) : FunOk P f cloneF := by
  intro as h Q e μ w args hR ha
  left
  unfold cloneF at e
  split at e
  · rename_i t id
    unfold cloneF.asMap at e
    split at e
    · rename_i es clock hg
      rw [pushK_iff] at e
      obtain ⟨n, h', hp, e⟩ := e
      obtain ⟨v, _, hv, hx, hn'⟩ := AV.relL_cons.1 ha
      rw [AV.relL_nil] at hn'; subst hn'
      have : args = #[v] := Array.toList_inj.1 hv
      subst this
      obtain ⟨v', w', μ', q1, q2, q3⟩ := clone_ok (P := P) hR (a := .iface t (.map id)) (r := .iface t (.map n)) (h' := h') (by simp only [aClone, hg, hp]) hx
      refine ⟨v', w', μ', _, h', ?_, q2, q3, e⟩
      rw [beq_eq_false_iff_ne] at hn
      rw [Option.isNone_iff_eq_none] at hb
      simp [callFunc, hf, hn, hb, h1, h2, q1]
    · rename_i es hg
      rw [pushK_iff] at e
      obtain ⟨n, h', hp, e⟩ := e
      obtain ⟨v, _, hv, hx, hn'⟩ := AV.relL_cons.1 ha
      rw [AV.relL_nil] at hn'; subst hn'
      have : args = #[v] := Array.toList_inj.1 hv
      subst this
      obtain ⟨v', w', μ', q1, q2, q3⟩ := clone_ok (P := P) hR (a := .iface t (.map id)) (r := .iface t (.map n)) (h' := h') (by simp only [aClone, hg, hp]) hx
      refine ⟨v', w', μ', _, h', ?_, q2, q3, e⟩
      rw [beq_eq_false_iff_ne] at hn
      rw [Option.isNone_iff_eq_none] at hb
      simp [callFunc, hf, hn, hb, h1, h2, q1]
    · exact e.elim
  · exact e.elim
end Go.Am

/- From the functional semantics to a row: whatever the input, the law returns true, and the input reads as it did. -/
namespace Go.Am
open Go Go.ChangeShapes Go.RowKit

theorem law_calls {P : Program} {f : FuncId} {g : Fun} (hok : FunOk P f g) (henter : ∀ args w, (callFunc f args).run P w = .ok (.enter f args) w) {as : List AV} {h : H} {Q : AV → H → Prop} (hg : g as h Q)
    {μ : Mu} {W : World} {args : Array Value} (hR : Rel μ h W) (ha : AV.relL μ as args.toList) : CallsTo P μ h W f args Q := by
  rcases hok as h Q hg μ W args hR ha with ⟨v, w', μ', r, h', q1, _⟩ | ⟨_, q⟩
  · rw [henter] at q1; cases q1
  · exact q
/-- the empty heap -/
def H0 : H := ⟨.lf, 0, 0⟩
theorem rel0 (W : World) : Rel noMu H0 W :=
  ⟨⟨Nat.le_refl _⟩, fun _ _ _ h => (by cases h), fun _ _ _ _ _ h => (by cases h), fun _ _ _ h => (by cases h), fun _ _ _ _ _ _ h => (by cases h), fun _ _ _ h => absurd h (Nat.not_lt_zero _)⟩
theorem below_of_post {μ μ' : Mu} {h h' : H} {W W' : World} (hp : Post μ h W μ' h' W') (hb : ∀ id b d, h.base ≤ id → μ id = some (b, d) → (h.get id).live = false) : Below W.heap.size W W' :=
  ⟨hp.frame.os, hp.frame.tape, hp.frame.output, hp.frame.size, fun k hk => hp.frame.block k hk fun id d h1 h2 => hb id k d h1 h2⟩
def isT (r : AV) (_ : H) : Prop := r = .bool true
/-- a law over a heap of which nothing may be written -/
theorem law {P : Program} {f : FuncId} {g : Fun} (hok : FunOk P f g) (henter : ∀ args w, (callFunc f args).run P w = .ok (.enter f args) w) {as : List AV} {h : H} (hg : g as h isT) {μ : Mu} (hb : ∀ id b d, h.base ≤ id → μ id = some (b, d) → (h.get id).live = false)
    {W : World} {args : Array Value} (hR : Rel μ h W) (ha : AV.relL μ as args.toList) : Calls P f args W fun e W' => e = .returned (.bool true) ∧ Below W.heap.size W W' :=
  Calls.mono (law_calls hok henter hg hR ha) fun e W' he => by
    obtain ⟨v, μ', r, h', rfl, hv, hp, hr⟩ := he
    have hr : r = .bool true := hr
    subst hr
    simp only [AV.rel] at hv; subst hv
    exact ⟨rfl, below_of_post hp hb⟩
section
variable {H : Type} {enc : TypeId × Value → H} {P : Program}
theorem trodAll_below (hl : laidOutB P = true) {W W' : World} (hb : Below W.heap.size W W') : ∀ {ts : List TypeId} {vs : List Value} {ds : List (DataW H)} {ps : List MemPlace}, (∀ t ∈ ts, P.readableRec t = true ∧ t < P.types.size) →
    DataW.TrodAll enc P W 0 (fun _ => true) true ts vs ds ps → (∀ x ∈ ps, x.block < W.heap.size) → DataW.TrodAll enc P W' 0 (fun b => decide (b < W.heap.size)) true ts vs ds ps
  | [], _, _, _, _, h, _ => by obtain ⟨rfl, rfl, rfl⟩ := trodAll_nil h; rfl
  | t :: ts, _, _, _, ht, h, hlt => by
    obtain ⟨v, vs1, d, ds1, a, b, rfl, rfl, rfl, h1, h2⟩ := trodAll_cons h
    exact ⟨a, b, Below.trod hl (ht t (by simp)).1 (ht t (by simp)).2 h1 hb (fun x hx => hlt x (by simp [hx])), trodAll_below hl hb (fun t h => ht t (by simp [h])) h2 (fun x hx => hlt x (by simp [hx])), rfl⟩
theorem post_of_below {f : Func} {s : ChangeSpec} {W W' : World} {args : Array Value} {v : Value} {ds gs : List (DataW H)} {before : List MemPlace} {fresh handsOn : Bool} (hv : s.vars = []) (hl : laidOutB P = true) (hpar : ∀ t ∈ f.params.toList, P.readableRec t = true ∧ t < P.types.size)
    (hW : DataW.Whole enc P f.params.toList s.vars false W args.toList ds gs before) (hb : Below W.heap.size W W') (ha : (s.fn H (ds ++ gs)).args = ds) (hvs : (s.fn H (ds ++ gs)).vars = [])
    (hres : ∀ (b : Nat) (sp : Nat → Bool) (hd : Bool), DataW.TrodAll enc P W' b sp hd f.resultTypes.toList (v.resultList f.resultTypes.size) (s.fn H (ds ++ gs)).results []) : s.post enc P f false fresh handsOn false W args v W' := by
  have hW' := hW
  have hlt := hW.lt
  obtain ⟨p, q, hA, hV, rfl, hz, hn⟩ := hW
  rw [hv] at hV
  obtain ⟨rfl, rfl⟩ := trodVars_none hV
  refine ⟨ds, [], p ++ [], [], p, [], hW', hres _ _ _, ?_, ?_, hb.frame _, fun h => by cases h⟩
  · rw [ha]; exact trodAll_below hl hb hpar hA (fun x hx => hlt x (by simp [hx]))
  · rw [hv, hvs]; rfl
theorem bool_res {W' : World} {f : Func} {t : TypeId} (hr : f.resultTypes = #[t]) (ht : P.underlying t = some .bool) (b : Bool) (k : Nat) (sp : Nat → Bool) (hd : Bool) :
    DataW.TrodAll enc P W' k sp hd f.resultTypes.toList ((Value.bool b).resultList f.resultTypes.size) [.lit (.bool b)] [] := by
  rw [hr]
  exact trodAll_mk1 ⟨1, by simp [DataW.trod, Value.cells, ht]⟩
end
end Go.Am

/- For functions that are printed in continuation style: taking the arguments, and a few short forms. -/
namespace Go.Am
open Go
noncomputable def arg (as : List AV) (k : AV → List AV → Prop) : Prop := List.rec (motive := fun _ => Prop) False (fun a t _ => k a t) as
noncomputable def noArg (as : List AV) (p : Prop) : Prop := List.rec (motive := fun _ => Prop) p (fun _ _ _ => False) as
theorem arg_imp {as : List AV} {k : AV → List AV → Prop} (e : arg as k) : ∃ a t, as = a :: t ∧ k a t := by
  cases as with
  | nil => exact e.elim
  | cons a t => exact ⟨a, t, rfl, e⟩
theorem noArg_imp {as : List AV} {p : Prop} (e : noArg as p) : as = [] ∧ p := by
  cases as with
  | nil => exact ⟨rfl, e⟩
  | cons a t => exact e.elim
noncomputable def lenK (v : AV) (k : Nat → Prop) : Prop := asSl v (k 0) fun _ _ len _ _ _ => k len
noncomputable def delK (o : Option (Option (Nat × Blk))) (h : H) (k : H → Prop) : Prop := op' o fun p => match p with
  | some q => putK q.1 q.2 h k
  | none => k h
noncomputable def spX (o : Option AV) (k : AV → Prop) : Prop := match o with
  | some v => k v
  | none => False
/-- what is run to 'true' holds -/
theorem of_run {p : Prop} (h : (AV.bool true = AV.bool true) = p) : p := h ▸ rfl
end Go.Am

/- What a call made and nobody names any more may be given up: summaries whose heap does not hang on what was thrown away. -/
namespace Go.Am
open Go
theorem Shown.resort {es es2 : List (AV × AV)} {es' : List (AV × AV × Nat)} {clock : Nat} (s : Shown es es' clock) (p : es.Perm es2) : Shown es2 es' clock :=
  ⟨s.perm.trans p, (p.map (·.1)).nodup_iff.1 s.keys, s.stamps, s.low⟩
/-- as h1, but that some blocks from place n on are given up, and some maps told in another order -/
structure Deader (n : Nat) (h1 h2 : H) : Prop where
  next : h2.next = h1.next
  base : h2.base = h1.base
  low : ∀ id, id < n → h2.get id = h1.get id
  high : ∀ id, n ≤ id → h2.get id = h1.get id ∨ h2.get id = .dead ∨ ∃ es es2, h1.get id = .smap es ∧ h2.get id = .smap es2 ∧ es.Perm es2
theorem Deader.refl (n : Nat) (h : H) : Deader n h h := ⟨rfl, rfl, fun _ _ => rfl, fun _ _ => .inl rfl⟩
theorem Deader.any {n : Nat} {h1 h2 : H} (d : Deader n h1 h2) (id : Nat) : h2.get id = h1.get id ∨ h2.get id = .dead ∨ ∃ es es2, h1.get id = .smap es ∧ h2.get id = .smap es2 ∧ es.Perm es2 := by
  rcases Nat.lt_or_ge id n with h | h
  · exact .inl (d.low id h)
  · exact d.high id h
theorem Deader.live {n : Nat} {h1 h2 : H} (d : Deader n h1 h2) {id : Nat} (h : (h2.get id).live = true) : (h1.get id).live = true := by
  rcases d.any id with e | e | ⟨es, es2, e, _⟩
  · rw [← e]; exact h
  · rw [e] at h; cases h
  · rw [e]; rfl
theorem Post.deader {μ μ' : Mu} {h h1 h2 : H} {w w' : World} (hR : Rel μ h w) (p : Post μ h w μ' h1 w') (d : Deader h.next h1 h2) : Post μ h w μ' h2 w' := by
  refine ⟨p.ext, ⟨?_, fun id b e hm => ?_, fun i j b e f hi hj li lj hbj => p.rel.inj i j b e f hi hj (d.live li) (d.live lj) (by have := d.base; omega), fun id b e hm => ?_, p.rel.cnt, p.rel.glb.step d.base (fun id hi => d.low id (by have := hR.wf.low; have := p.grows.base; omega)) fun _ _ => rfl⟩, p.frame, ⟨?_, ?_, fun id hi hm => ?_, fun id hi => ?_, fun id hi hl => p.grows.dead id hi (d.live hl)⟩, fun id b e hi hm hb hl => p.fresh id b e hi hm hb (d.live hl)⟩
  · exact ⟨by rw [d.base, d.next]; exact p.rel.wf.low⟩
  · rw [d.next]; exact p.rel.dom id b e hm
  · rcases d.any id with q | q | ⟨es, es2, q1, q2, q3⟩
    · rw [q, d.base]; exact p.rel.blk id b e hm
    · rw [q]; trivial
    · have hb := p.rel.blk id b e hm
      rw [q1] at hb
      obtain ⟨h0, es', clock, ces, r1, r2, r3⟩ := hb
      rw [q2]; exact ⟨h0, es', clock, ces, r1, r2, r3.resort q3⟩
  · rw [d.next]; exact p.grows.next
  · rw [d.base]; exact p.grows.base
  · rw [d.low id hi]; exact p.grows.keep id hi hm
  · rw [d.low id (Nat.lt_of_lt_of_le hi hR.wf.low)]; exact p.grows.low id hi
theorem FunOk.deader {P : Program} {f : FuncId} {g g' : Fun} (hg : FunOk P f g) (hi : ∀ as h k, h.Wf → g' as h k → g as h fun r h1 => ∃ h2, Deader h.next h1 h2 ∧ k r h2) : FunOk P f g' := by
  intro as h Q e μ w args hR ha
  rcases hg as h _ (hi as h Q hR.wf e) μ w args hR ha with ⟨v, w', μ', r, h1, q1, q2, q3, h2, q4, q5⟩ | ⟨q1, q2⟩
  · exact .inl ⟨v, w', μ', r, h2, q1, q2, q3.deader hR q4, q5⟩
  · exact .inr ⟨q1, Calls.mono q2 fun e w' ⟨v, μ', r, h1, p1, p2, p3, h2, p4, p5⟩ => ⟨v, μ', r, h2, p1, p2, p3.deader hR p4, p5⟩⟩
/-- what follows may be asked less -/
theorem FunOk.up {P : Program} {f : FuncId} {g g' : Fun} (hg : FunOk P f g) (hi : ∀ as h k, g' as h k → ∃ K, g as h K ∧ ∀ r h', K r h' → k r h') : FunOk P f g' := by
  intro as h Q e μ w args hR ha
  obtain ⟨K, e, hK⟩ := hi as h Q e
  rcases hg as h K e μ w args hR ha with ⟨v, w', μ', r, h1, q1, q2, q3, q4⟩ | ⟨q1, q2⟩
  · exact .inl ⟨v, w', μ', r, h1, q1, q2, q3, hK _ _ q4⟩
  · exact .inr ⟨q1, Calls.mono q2 fun e w' ⟨v, μ', r, h1, p1, p2, p3, p4⟩ => ⟨v, μ', r, h1, p1, p2, p3, hK _ _ p4⟩⟩
end Go.Am

/- A range over a map, step by step. -/
namespace Go.Am
open Go
theorem hput_get {h h' : H} {i : Nat} {b : Blk} (e : h.put i b = some h') : i < h.next ∧ h.base ≤ i ∧ h'.next = h.next ∧ h'.base = h.base ∧ ∀ id, h'.get id = if id = i then b else h.get id := by
  rw [H.put_eq] at e
  split at e
  · rename_i hlt
    injection e with e; subst e
    refine ⟨hlt.1, hlt.2, rfl, rfl, fun id => ?_⟩
    rw [H.get_eq, H.get_eq]
    simp only [Tr.get_set]
    split <;> split <;> first | rfl | omega | simp_all
  · cases e
theorem put_ok {h : H} {i : Nat} (b : Blk) (h1 : i < h.next) (h2 : h.base ≤ i) : ∃ h', h.put i b = some h' := ⟨_, by rw [H.put_eq, if_pos ⟨h1, h2⟩]⟩
theorem push_ok (h : H) (b : Blk) : ∃ h', h.push b = some (h.next, h') := by unfold H.push; exact ⟨_, rfl⟩
/-- an iterator over map m, that stands as es (told at first: es0), has gone over 'seen' -/
structure Iter (m r : Nat) (es0 : List (AV × AV)) (es : List (AV × AV × Nat)) (clock : Nat) (seen : List Nat) (h : H) : Prop where
  mp : h.get m = .amap es clock
  it : h.get r = .miter (some m) clock seen clock
  shown : Shown es0 es clock
theorem Iter.ne {m r : Nat} {es0 : List (AV × AV)} {es : List (AV × AV × Nat)} {clock : Nat} {seen : List Nat} {h : H} (i : Iter m r es0 es clock seen h) : m ≠ r := by
  intro e; subst e; have := i.it; rw [i.mp] at this; cases this
/-- the next round, or the end; at the end any heap will do that reads alike -/
theorem Iter.nextA {m r : Nat} {es0 : List (AV × AV)} {es : List (AV × AV × Nat)} {clock : Nat} {seen : List Nat} {h : H} (i : Iter m r es0 es clock seen h) {k : AV → H → Prop}
    (hgo : ∀ e ∈ es, e.2.2 ∉ seen → ∃ h', h.put r (.miter (some m) clock (seen ++ [e.2.2]) clock) = some h' ∧ k (.tuple [.bool true, e.1, e.2.1]) h')
    (hend : (∀ e ∈ es, e.2.2 ∈ seen) → ∃ h1 h2 h3, h.put m (.smap es0) = some h1 ∧ h1.put r .dead = some h2 ∧ Alike h2 h3 ∧ k (.tuple [.bool false]) h3) : aNext (.ptr r 0) h k := by
  unfold aNext
  simp only [i.it, i.mp]
  have hst : (!seen.isEmpty && !es.isEmpty && es.all (fun e => Nat.ble clock e.2.2)) = false := by
    cases es with
    | nil => simp
    | cons e l =>
      have := i.shown.low e List.mem_cons_self
      have hb : Nat.ble clock e.2.2 = false := by
        cases hc : Nat.ble clock e.2.2 with
        | false => rfl
        | true => rw [ble_iff] at hc; omega
      simp [hb]
  rw [hst]
  simp only
  intro c hc
  unfold aCands at hc
  have hold : ∀ e ∈ es, Nat.blt e.2.2 clock = true := fun e he => by rw [blt_iff]; exact i.shown.low e he
  have e1 : ((es.filter fun e => !hasN seen e.2.2).filter fun e => Nat.blt e.2.2 clock) = es.filter fun e => !hasN seen e.2.2 := by
    rw [List.filter_eq_self]; intro e he; exact hold e (List.mem_filter.1 he).1
  have e2 : ((es.filter fun e => !hasN seen e.2.2).filter fun e => !Nat.blt e.2.2 clock) = [] := by
    rw [List.filter_eq_nil_iff]; intro e he; simp [hold e (List.mem_filter.1 he).1]
  simp only [e1, e2, List.append_nil] at hc
  rcases List.mem_append.1 hc with hc | hc
  · split at hc
    · rename_i hnil
      simp at hc; subst hc
      refine .inr ?_
      obtain ⟨h1, h2, h3, p1, p2, p3, p4⟩ := hend (fun e he => by
        have := (List.filter_eq_nil_iff.1 hnil) e he
        simpa [hasN_eq] using this)
      exact ⟨es0, h1, h2, h3, i.shown, p1, p2, p3, p4⟩
    · cases hc
  · obtain ⟨e, he, rfl⟩ := List.mem_map.1 hc
    obtain ⟨he, hs⟩ := List.mem_filter.1 he
    obtain ⟨x, v, n⟩ := e
    obtain ⟨h', p1, p2⟩ := hgo (x, v, n) he (by simpa [hasN_eq] using hs)
    simp only [lapp_eq, p1]
    exact p2
theorem Iter.next {m r : Nat} {es0 : List (AV × AV)} {es : List (AV × AV × Nat)} {clock : Nat} {seen : List Nat} {h : H} (i : Iter m r es0 es clock seen h) {k : AV → H → Prop}
    (hgo : ∀ e ∈ es, e.2.2 ∉ seen → ∃ h', h.put r (.miter (some m) clock (seen ++ [e.2.2]) clock) = some h' ∧ k (.tuple [.bool true, e.1, e.2.1]) h')
    (hend : (∀ e ∈ es, e.2.2 ∈ seen) → ∃ h1 h2, h.put m (.smap es0) = some h1 ∧ h1.put r .dead = some h2 ∧ k (.tuple [.bool false]) h2) : aNext (.ptr r 0) h k :=
  i.nextA hgo fun ha => let ⟨h1, h2, p1, p2, p3⟩ := hend ha; ⟨h1, h2, h2, p1, p2, .refl _, p3⟩
/-- what 'next' gave, is what is read -/
theorem find_stamp {es : List (AV × AV × Nat)} (hs : (es.map (·.2.2)).Nodup) {e : AV × AV × Nat} (he : e ∈ es) : es.find? (fun x => Nat.beq x.2.2 e.2.2) = some e := by
  induction es with
  | nil => cases he
  | cons a l ih =>
    rw [List.map_cons, List.nodup_cons] at hs
    rw [List.find?_cons]
    rcases List.mem_cons.1 he with rfl | he
    · have : Nat.beq e.2.2 e.2.2 = true := by rw [Nat.beq_eq]
      rw [this]
    · have : Nat.beq a.2.2 e.2.2 = false := by
        cases hb : Nat.beq a.2.2 e.2.2 with
        | false => rfl
        | true => rw [Nat.beq_eq] at hb; exact absurd (List.mem_map.2 ⟨e, he, hb.symm⟩) hs.1
      rw [this]; exact ih hs.2 he
theorem Iter.entry {m r : Nat} {es0 : List (AV × AV)} {es : List (AV × AV × Nat)} {clock : Nat} {seen : List Nat} {e : AV × AV × Nat} {h : H} (i : Iter m r es0 es clock (seen ++ [e.2.2]) h) (he : e ∈ es) : aEntry (.ptr r 0) h = some (.tuple [e.1, e.2.1]) := by
  unfold aEntry
  have : Nat.beq clock clock = true := by rw [Nat.beq_eq]
  simp only [i.it, i.mp, this, List.getLast?_append, List.getLast?_singleton, Option.some_or, find_stamp i.shown.stamps he]
theorem Iter.step {m r : Nat} {es0 : List (AV × AV)} {es : List (AV × AV × Nat)} {clock : Nat} {seen seen' : List Nat} {h h' : H} (i : Iter m r es0 es clock seen h) (hp : h.put r (.miter (some m) clock seen' clock) = some h') : Iter m r es0 es clock seen' h' := by
  obtain ⟨_, _, _, _, g⟩ := hput_get hp
  exact ⟨by rw [g, if_neg i.ne]; exact i.mp, by rw [g, if_pos rfl], i.shown⟩
/-- what is still to come -/
def rest (seen : List Nat) (es : List (AV × AV × Nat)) : List (AV × AV × Nat) := es.filter fun e => !seen.contains e.2.2
theorem rest_step {es : List (AV × AV × Nat)} (hs : (es.map (·.2.2)).Nodup) {e : AV × AV × Nat} (he : e ∈ es) {seen : List Nat} (hn : e.2.2 ∉ seen) : (rest seen es).Perm (e :: rest (seen ++ [e.2.2]) es) := by
  induction es with
  | nil => cases he
  | cons a l ih =>
    rw [List.map_cons, List.nodup_cons] at hs
    rcases List.mem_cons.1 he with rfl | he
    · have h1 : rest (seen ++ [e.2.2]) l = rest seen l := by
        unfold rest
        apply List.filter_congr
        intro x hx
        have : x.2.2 ≠ e.2.2 := fun q => hs.1 (List.mem_map.2 ⟨x, hx, q⟩)
        simp [this]
      have h2 : rest seen (e :: l) = e :: rest seen l := by unfold rest; rw [List.filter_cons]; simp [hn]
      have h3 : rest (seen ++ [e.2.2]) (e :: l) = rest (seen ++ [e.2.2]) l := by unfold rest; rw [List.filter_cons]; simp
      rw [h2, h3, h1]
    · have hne : a.2.2 ≠ e.2.2 := fun q => hs.1 (List.mem_map.2 ⟨e, he, q.symm⟩)
      have ih := ih hs.2 he
      unfold rest at ih ⊢
      rw [List.filter_cons, List.filter_cons]
      by_cases ha : a.2.2 ∈ seen
      · simp only [List.contains_eq_mem, ha, decide_true, Bool.not_true, List.mem_append, true_or]
        simpa [List.contains_eq_mem] using ih
      · have hb : a.2.2 ∉ seen ++ [e.2.2] := by simp [ha, hne]
        simp only [List.contains_eq_mem, ha, hb, decide_false, Bool.not_false, if_true]
        refine .trans (.cons a ?_) (.swap _ _ _)
        simpa [List.contains_eq_mem] using ih
theorem rest_nil {es : List (AV × AV × Nat)} {seen : List Nat} (h : ∀ e ∈ es, e.2.2 ∈ seen) : rest seen es = [] := by
  unfold rest; rw [List.filter_eq_nil_iff]; intro e he; simp [h e he]
theorem rest_all (es : List (AV × AV × Nat)) : rest [] es = es := by
  unfold rest; rw [List.filter_eq_self]; intro e he; simp
end Go.Am

namespace Go.Am
open Go
theorem wrap_i64 (n : Int) : ∃ q : Int, wrapF .i64 n = n - 18446744073709551616 * q ∧ -9223372036854775808 ≤ wrapF .i64 n ∧ wrapF .i64 n < 9223372036854775808 := by
  rw [wrapF_eq]
  simp only [IntKind.wrap, IntKind.bits, IntKind.signed, Bool.true_and]
  split
  · rename_i hc; simp at hc; exact ⟨n / 18446744073709551616 + 1, by omega, by omega, by omega⟩
  · rename_i hc; simp at hc; exact ⟨n / 18446744073709551616, by omega, by omega, by omega⟩
theorem wrap_sub2 (n a b : Int) : wrapF .i64 (Int.sub (wrapF .i64 (Int.sub n a)) b) = wrapF .i64 (Int.sub (wrapF .i64 (Int.sub n b)) a) := by
  show wrapF .i64 (wrapF .i64 (n - a) - b) = wrapF .i64 (wrapF .i64 (n - b) - a)
  obtain ⟨q1, h1, _⟩ := wrap_i64 (n - a)
  obtain ⟨q2, h2, _⟩ := wrap_i64 (n - b)
  obtain ⟨q3, h3, h4, h5⟩ := wrap_i64 (wrapF .i64 (n - a) - b)
  obtain ⟨q4, h6, h7, h8⟩ := wrap_i64 (wrapF .i64 (n - b) - a)
  omega
/-- what is left when each of a list is taken off -/
noncomputable def takeOff (n : Int) (l : List Int) : Int := l.foldl (fun n x => wrapF .i64 (Int.sub n x)) n
theorem takeOff_perm {l l' : List Int} (h : l.Perm l') (n : Int) : takeOff n l = takeOff n l' :=
  h.foldl_eq' (fun x _ y _ z => wrap_sub2 z x y) n
end Go.Am

/- Arguments: a struct is told as its cells; parameters that are read. -/
namespace Go.Am
open Go Go.ChangeShapes Go.WideShapes Go.RowKit
/-- p, hidden from what would reckon it -/
structure Holds (p : Prop) : Prop where
  out : p
theorem pars_ok {P : Program} {ts : List TypeId} (h : (ts.all fun t => P.readableRec t && Nat.blt t P.types.size) = true) : ∀ t ∈ ts, P.readableRec t = true ∧ t < P.types.size := fun t ht => by
  have := List.all_eq_true.1 h t ht
  simp only [Bool.and_eq_true, blt_iff] at this
  exact this
end Go.Am

/- Ranges over functions, as they are printed. -/
namespace Go.Am
open Go
/-- the codes of the ranges over functions in a piece of code -/
def rfCodes : Code → List (Code × Code)
  | .seq a b => rfCodes a ++ rfCodes b
  | .cond _ a b => rfCodes a ++ rfCodes b
  | .block _ b => rfCodes b
  | .loop b => rfCodes b
  | .scope b => rfCodes b
  | .rangeFunc _ _ a b => [(a, b)]
  | _ => []
def rfAt (f : Func) (i : Nat) : Code × Code :=
  match f.body with
  | some c => (rfCodes c).getD i (.skip, .skip)
  | none => (.skip, .skip)
noncomputable def rfK (G : Gam) (v : AV) (ps : List Nat) (c : Code × Code) (env : List AV) (h : H) (k : Nat → Nat → H → Prop) : Prop :=
  match v with
  | .func (.func f) first captured => pushK (.defd true) h fun id0 h => pushK (.loop .ready none ps c.1 c.2 env) h fun id1 h => G.it f (first ++ (.yield id1 :: captured)) h fun _ h => k id0 id1 h
  | _ => False
noncomputable def endR (id0 id1 : Nat) (norm ret : List Dfr → H → Prop) (ex : Nat → List Dfr → H → Prop) (ds : List Dfr) (h : H) : Prop :=
  match h.get id1 with
  | .loop .busy _ _ _ _ _ => False
  | .loop _ pend _ _ _ _ => setLoop id1 .exhausted pend h fun h' => match pend with
    | none => norm (.coll id0 :: ds) h'
    | some .ret => ret (.coll id0 :: ds) h'
    | some (.exit i) => ex i (.coll id0 :: ds) h'
    | _ => False
  | _ => False
noncomputable def exB (c : Bool) (p q : List Dfr → H → Prop) : List Dfr → H → Prop :=
  match c with
  | true => p
  | false => q
end Go.Am

/- What is asked of the rest may be weakened: each piece in continuation style is monotone. -/
namespace Go.Am
open Go
theorem fN_mono {n : Nat} {k k' : Nat → Prop} (hk : ∀ x, k x → k' x) : fN n k → fN n k' := by rw [fN_eq, fN_eq]; exact hk _
theorem fI_mono {n : Int} {k k' : Int → Prop} (hk : ∀ x, k x → k' x) : fI n k → fI n k' := by rw [fI_eq, fI_eq]; exact hk _
theorem fB_mono {n : Bool} {k k' : Bool → Prop} (hk : ∀ x, k x → k' x) : fB n k → fB n k' := by rw [fB_eq, fB_eq]; exact hk _
theorem fS_mono {n : Str} {k k' : Str → Prop} (hk : ∀ x, k x → k' x) : fS n k → fS n k' := by rw [fS_eq, fS_eq]; exact hk _
theorem br_mono {c : Bool} {p p' q q' : Prop} (h1 : p → p') (h2 : q → q') : br c p q → br c p' q' := by
  rw [br_iff, br_iff]; rintro (⟨a, b⟩ | ⟨a, b⟩); exact .inl ⟨a, h1 b⟩; exact .inr ⟨a, h2 b⟩
theorem ck_mono {c : Bool} {p p' : Prop} (h1 : p → p') : ck c p → ck c p' := by rw [ck_iff, ck_iff]; exact fun h => ⟨h.1, h1 h.2⟩
theorem op_mono {α : Type} {o : Option α} {k k' : α → Prop} (hk : ∀ x, k x → k' x) : op' o k → op' o k' := by
  rw [op'_iff, op'_iff]; rintro ⟨a, b, c⟩; exact ⟨a, b, hk _ c⟩
theorem asI_mono {kk : IntKind} {v : AV} {k k' : Int → Prop} (hk : ∀ x, k x → k' x) : asI kk v k → asI kk v k' := by
  rw [asI_iff, asI_iff]; rintro ⟨a, b, c⟩; exact ⟨a, b, hk _ c⟩
theorem asB_mono {v : AV} {k k' : Bool → Prop} (hk : ∀ x, k x → k' x) : asB v k → asB v k' := by
  rw [asB_iff, asB_iff]; rintro ⟨a, b, c⟩; exact ⟨a, b, hk _ c⟩
theorem asS_mono {v : AV} {k k' : Str → Prop} (hk : ∀ x, k x → k' x) : asS v k → asS v k' := by
  rw [asS_iff, asS_iff]; rintro ⟨a, b, c⟩; exact ⟨a, b, hk _ c⟩
theorem asAgg_mono {v : AV} {k k' : List AV → Prop} (hk : ∀ x, k x → k' x) : Go.Am.asAgg v k → Go.Am.asAgg v k' := by
  rw [asAgg_iff, asAgg_iff]; rintro ⟨a, b, c⟩; exact ⟨a, b, hk _ c⟩
theorem asTup_mono {v : AV} {k k' : List AV → Prop} (hk : ∀ x, k x → k' x) : Go.Am.asTup v k → Go.Am.asTup v k' := by
  rw [asTup_iff, asTup_iff]; rintro ⟨a, b, c⟩; exact ⟨a, b, hk _ c⟩
theorem asNat_mono {v : AV} {k k' : Nat → Prop} (hk : ∀ x, k x → k' x) : asNat v k → asNat v k' := by
  rw [asNat_iff, asNat_iff]; rintro ⟨a, b, c, d⟩; exact ⟨a, b, c, hk _ d⟩
theorem asPtr_mono {v : AV} {k k' : Nat → Nat → Prop} (hk : ∀ x y, k x y → k' x y) : asPtr v k → asPtr v k' := by
  rw [asPtr_iff, asPtr_iff]; rintro ⟨a, b, c, d⟩; exact ⟨a, b, c, hk _ _ d⟩
theorem asPG_mono {v : AV} {k k' k2 k2' : Nat → Nat → Prop} (hk : ∀ x y, k x y → k' x y) (hk2 : ∀ x y, k2 x y → k2' x y) : asPG v k k2 → asPG v k' k2' := by
  rw [asPG_iff, asPG_iff]
  rintro (⟨a, b, c, d⟩ | ⟨a, b, c, d⟩)
  · exact .inl ⟨a, b, c, hk _ _ d⟩
  · exact .inr ⟨a, b, c, hk2 _ _ d⟩
theorem asSl_mono {v : AV} {n n' : Prop} {k k' : Nat → Nat → Nat → Nat → Nat → Bool → Prop} (hn : n → n') (hk : ∀ a b c d e f, k a b c d e f → k' a b c d e f) : asSl v n k → asSl v n' k' := by
  rw [asSl_iff, asSl_iff]
  rintro (⟨a, b⟩ | ⟨a, b, c, d, e, f, g, q⟩)
  · exact .inl ⟨a, hn b⟩
  · exact .inr ⟨a, b, c, d, e, f, g, hk _ _ _ _ _ _ q⟩
theorem asRow'_mono {b : Blk} {k1 k1' : Bool → Nat → List AV → Prop} {k2 k2' : Nat → Nat → Bool → Str → Prop} (h1 : ∀ m t cs, k1 m t cs → k1' m t cs) (h2 : ∀ t f g s, k2 t f g s → k2' t f g s) : asRow' b k1 k2 → asRow' b k1' k2' := by
  rw [asRow'_iff, asRow'_iff]
  rintro (⟨a, b, c, d, q⟩ | ⟨a, b, c, d, e, q⟩)
  · exact .inl ⟨a, b, c, d, h1 _ _ _ q⟩
  · exact .inr ⟨a, b, c, d, e, h2 _ _ _ _ q⟩
theorem glK_mono {h : H} {g : Nat} {k k' : List AV → Prop} (hk : ∀ cs, k cs → k' cs) : glK h g k → glK h g k' := ck_mono (asRow'_mono (fun _ _ cs => ck_mono (hk cs)) fun _ _ _ _ h => h)
theorem okNil_mono {v : AV} {p p' : Prop} (hp : p → p') : okNil v p → okNil v p' := fun h => by
  cases v <;> first | exact h.elim | exact hp h | skip
  rename_i fn _ _
  cases fn <;> first | exact h.elim | exact hp h
theorem nilB_mono {c : Nat} {v : AV} {k k' : Bool → Prop} (hk : ∀ b, k b → k' b) : nilB c v k → nilB c v k' := br_mono (hk _) (ck_mono (hk _))
theorem pickB_mono {c a b : AV} {k k' : Bool → Prop} (hk : ∀ b, k b → k' b) : pickB c a b k → pickB c a b k' := asB_mono fun _ => br_mono (asB_mono hk) (asB_mono hk)
theorem pickI_mono {kk : IntKind} {c a b : AV} {k k' : Int → Prop} (hk : ∀ b, k b → k' b) : pickI kk c a b k → pickI kk c a b k' := asB_mono fun _ => br_mono (asI_mono hk) (asI_mono hk)
theorem pickS_mono {c a b : AV} {k k' : Str → Prop} (hk : ∀ b, k b → k' b) : pickS c a b k → pickS c a b k' := asB_mono fun _ => br_mono (asS_mono hk) (asS_mono hk)
theorem pickV_mono {c a b : AV} {k k' : AV → Prop} (hk : ∀ b, k b → k' b) : pickV c a b k → pickV c a b k' := asB_mono fun _ => br_mono (hk _) (hk _)
theorem obK_mono {o : Option AV} {k k' : Bool → Prop} (hk : ∀ b, k b → k' b) : obK o k → obK o k' := op_mono fun _ => asB_mono hk
theorem pushK_mono {b : Blk} {h : H} {k k' : Nat → H → Prop} (hk : ∀ n h, k n h → k' n h) : pushK b h k → pushK b h k' := by
  rw [pushK_eq, pushK_eq]; exact hk _ _
theorem putK_mono {i : Nat} {b : Blk} {h : H} {k k' : H → Prop} (hk : ∀ h, k h → k' h) : putK i b h k → putK i b h k' := by
  rw [putK_iff, putK_iff]; rintro ⟨a, b, c⟩; exact ⟨a, b, hk _ c⟩
theorem faK_mono {off : Nat} {p : AV} {k k' : AV → Prop} (hk : ∀ v, k v → k' v) : faK off p k → faK off p k' := asPG_mono (fun _ _ => fN_mono fun _ => hk _) fun _ _ => fN_mono fun _ => hk _
theorem ixK_mono {size : Nat} {s i : AV} {k k' : AV → Prop} (hk : ∀ v, k v → k' v) : ixK size s i k → ixK size s i k' := asSl_mono (fun h => h) fun _ _ _ _ _ _ => asNat_mono fun _ => ck_mono (fN_mono fun _ => hk _)
theorem ixsK_mono {s i : AV} {k k' : Int → Prop} (hk : ∀ v, k v → k' v) : ixsK s i k → ixsK s i k' := asS_mono fun _ => asNat_mono fun _ => ck_mono (fN_mono fun _ => hk _)
theorem bndK_mono {d : Nat} {x : Option AV} {k k' : Nat → Prop} (hk : ∀ v, k v → k' v) : bndK d x k → bndK d x k' := by
  cases x with
  | none => exact hk _
  | some v => exact asNat_mono hk
theorem slK_mono {size : Nat} {v : AV} {lo hi : Option AV} {k k' : AV → Prop} (hk : ∀ v, k v → k' v) : slK size v lo hi k → slK size v lo hi k' :=
  asSl_mono (bndK_mono fun _ => bndK_mono fun _ => ck_mono (ck_mono (hk _))) fun _ _ _ _ _ _ => bndK_mono fun _ => bndK_mono fun _ => ck_mono (ck_mono (ck_mono (br_mono (fN_mono fun _ => hk _) (fN_mono fun _ => fN_mono fun _ => fN_mono fun _ => hk _))))
theorem ldV_mono {p : AV} {h : H} {k k' : AV → Prop} (hk : ∀ v, k v → k' v) : ldV p h k → ldV p h k' := asPG_mono (fun _ _ => asRow'_mono (fun _ _ _ => op_mono hk) fun _ _ _ _ => ck_mono (fN_mono fun _ => hk _)) fun _ _ => glK_mono fun _ => op_mono hk
theorem ldB_mono {p : AV} {h : H} {k k' : Bool → Prop} (hk : ∀ v, k v → k' v) : ldB p h k → ldB p h k' := ldV_mono fun _ => asB_mono hk
theorem ldI_mono {kk : IntKind} {p : AV} {h : H} {k k' : Int → Prop} (hk : ∀ v, k v → k' v) : ldI kk p h k → ldI kk p h k' := ldV_mono fun _ => asI_mono hk
theorem ldS_mono {p : AV} {h : H} {k k' : Str → Prop} (hk : ∀ v, k v → k' v) : ldS p h k → ldS p h k' := ldV_mono fun _ => asS_mono hk
theorem ldN_mono {n : Nat} {p : AV} {h : H} {k k' : List AV → Prop} (hk : ∀ v, k v → k' v) : ldN n p h k → ldN n p h k' := asPG_mono (fun _ _ => asRow'_mono (fun _ _ _ => op_mono hk) fun _ _ _ _ h => h) fun _ _ => glK_mono fun _ => op_mono hk
theorem stV_mono {p x : AV} {h : H} {k k' : H → Prop} (hk : ∀ h, k h → k' h) : stV p x h k → stV p x h k' :=
  asPtr_mono fun _ _ => asRow'_mono (fun _ _ _ => ck_mono (op_mono fun _ => putK_mono hk)) fun _ _ _ _ => asNat_mono fun _ => ck_mono (ck_mono (ck_mono (fS_mono fun _ => asI_mono fun _ => putK_mono hk)))
theorem stN_mono {n : Nat} {p : AV} {xs : List AV} {h : H} {k k' : H → Prop} (hk : ∀ h, k h → k' h) : stN n p xs h k → stN n p xs h k' :=
  asPtr_mono fun _ _ => asRow'_mono (fun _ _ _ => ck_mono (ck_mono (op_mono fun _ => putK_mono hk))) fun _ _ _ _ h => h
theorem lenK_mono {v : AV} {k k' : Nat → Prop} (hk : ∀ n, k n → k' n) : lenK v k → lenK v k' := asSl_mono (hk _) fun _ _ _ _ _ _ => hk _
theorem leaveK_mono {G : Gam} (hd : ∀ f as h k k', (∀ r h, k r h → k' r h) → G.dfn f as h k → G.dfn f as h k') : ∀ {ds : List Dfr} {h : H} {k k' : H → Prop}, (∀ h, k h → k' h) → leaveK G ds h k → leaveK G ds h k'
  | [], h, k, k', hk => hk h
  | .coll id :: ds, h, k, k', hk => fun q => by
    unfold leaveK at q ⊢
    split at q
    · exact putK_mono (fun h => leaveK_mono hd hk) q
    · exact q.elim
  | .call f as cs :: ds, h, k, k', hk => hd _ _ _ _ _ fun _ _ => leaveK_mono hd hk
theorem leave_gam {J : Joins} {l : List (Nat × Fun)} {ds : List Dfr} {h : H} {k k' : H → Prop} (hk : ∀ h, k h → k' h) : leaveK (gam J l) ds h k → leaveK (gam J l) ds h k' := leaveK_mono (fun _ _ _ _ _ _ q => q) hk
theorem jn_mono {j j' : AV → H → Prop} {b b' : (AV → H → Prop) → Prop} (hj : ∀ v h, j v h → j' v h) (hb : ∀ j j', (∀ v h, j v h → j' v h) → b j → b' j') : J0.jn j b → J0.jn j' b' := hb _ _ hj
theorem jb_mono {j j' : Bool → AV → Prop} {b b' : (Bool → AV → Prop) → Prop} (hj : ∀ v h, j v h → j' v h) (hb : ∀ j j', (∀ v h, j v h → j' v h) → b j → b' j') : J0.jb j b → J0.jb j' b' := hb _ _ hj
theorem jd_mono {α : Type} {j j' : α → List Dfr → H → Prop} {b b' : (α → List Dfr → H → Prop) → Prop} (hj : ∀ v d h, j v d h → j' v d h) (hb : ∀ j j', (∀ v d h, j v d h → j' v d h) → b j → b' j') : J0.jd j b → J0.jd j' b' := hb _ _ hj
theorem loopN_mono {α : Type} {b b' : (α → List Dfr → H → Prop) → α → List Dfr → H → Prop} (hb : ∀ s s' : α → List Dfr → H → Prop, (∀ v d h, s v d h → s' v d h) → ∀ v d h, b s v d h → b' s' v d h) : ∀ (n : Nat) (v : α) (d : List Dfr) (h : H), loopN b n v d h → loopN b' n v d h
  | 0, _, _, _ => fun h => h
  | n + 1, v, d, h => hb _ _ (loopN_mono hb n) v d h
theorem lp_mono {α : Type} {b b' : (α → List Dfr → H → Prop) → α → List Dfr → H → Prop} {v : α} {d : List Dfr} {h : H} (hb : ∀ s s' : α → List Dfr → H → Prop, (∀ v d h, s v d h → s' v d h) → ∀ v d h, b s v d h → b' s' v d h) : J0.lp b v d h → J0.lp b' v d h := by
  rw [J0.lp_ok, J0.lp_ok]; exact loopN_mono hb _ _ _ _
noncomputable def faP (off : Nat) (p : AV) (k : AV → Prop) : Prop := Go.Am.asPtr p fun id o => fN (Nat.add o off) fun o => k (.ptr id o)
noncomputable def ldP (p : AV) (h : H) (k : AV → Prop) : Prop := Go.Am.asPtr p fun id off => asRow' (h.get id) (fun _ _ cs => op' (lgetO cs off) k) fun _ _ _ s => ck (Nat.blt off s.len) (fN (s.get off) fun c => k (.int .u8 (Int.ofNat c)))
theorem faP_up {off : Nat} {p : AV} {k : AV → Prop} (q : faP off p k) : faK off p k := by
  unfold faP at q; rw [asPtr_iff] at q
  obtain ⟨i, o, rfl, q⟩ := q; exact q
theorem ldP_up {p : AV} {h : H} {k : AV → Prop} (q : ldP p h k) : ldV p h k := by
  unfold ldP at q; rw [asPtr_iff] at q
  obtain ⟨i, o, rfl, q⟩ := q; exact q
theorem ldV_eq {p : AV} {h : H} {k : AV → Prop} (q : ldV p h k) : ∃ v, (∀ k' : AV → Prop, ldV p h k' = k' v) ∧ k v := by
  unfold ldV at q ⊢
  rw [asPG_iff] at q
  rcases q with ⟨i, o, rfl, q⟩ | ⟨i, o, rfl, q⟩
  · rw [asRow'_iff] at q
    rcases q with ⟨m, t, cs, g, q⟩ | ⟨t, f, gg, s, g, q⟩
    · rw [op'_iff] at q
      obtain ⟨a, ga, q⟩ := q
      exact ⟨a, fun k' => by show asRow' (h.get i) _ _ = _; rw [g]; show op' (lgetO cs o) k' = _; rw [ga]; rfl, q⟩
    · rw [ck_iff, fN_eq] at q
      exact ⟨_, fun k' => by show asRow' (h.get i) _ _ = _; rw [g]; show ck _ _ = _; rw [q.1, fN_eq]; rfl, q.2⟩
  · obtain ⟨t, cs, h1, h2, q⟩ := glK_imp q
    rw [op'_iff] at q
    obtain ⟨a, ga, q⟩ := q
    exact ⟨a, fun k' => by show glK h i _ = _; unfold glK; rw [h1, h2]; show op' (lgetO cs o) k' = _; rw [ga]; rfl, q⟩
end Go.Am

/- The package variables, as a row lists them, in the abstract heap: block g is global g. -/
namespace Go.Am
open Go Go.ChangeShapes Go.RowKit

noncomputable def trOf : List Blk → Nat → Tr → Tr
  | [], _, t => t
  | b :: bs, i, t => trOf bs (i + 1) (Tr.set t i b)
noncomputable def Hg (gs : List Blk) : H := ⟨trOf gs 0 .lf, gs.length, gs.length⟩
theorem trOf_get : ∀ (gs : List Blk) (i : Nat) (t : Tr) (j : Nat), Tr.get (trOf gs i t) j = if i ≤ j ∧ j < i + gs.length then gs.getD (j - i) .dead else Tr.get t j
  | [], i, t, j => by
    show Tr.get t j = _
    rw [if_neg (by simp)]
  | b :: bs, i, t, j => by
    show Tr.get (trOf bs (i + 1) (Tr.set t i b)) j = _
    rw [trOf_get bs (i + 1) _ j, Tr.get_set]
    by_cases h1 : i + 1 ≤ j ∧ j < i + 1 + bs.length
    · rw [if_pos h1, if_pos (by simp; omega), show j - i = (j - (i + 1)) + 1 from by omega]; simp
    · rw [if_neg h1]
      by_cases h2 : j = i
      · subst h2; rw [if_pos rfl, if_pos (by simp)]; simp
      · rw [if_neg h2, if_neg (by simp; omega)]
theorem Hg_get (gs : List Blk) (i : Nat) : (Hg gs).get i = gs.getD i .dead := by
  rw [H.get_eq]
  show (if i < gs.length then Tr.get (trOf gs 0 .lf) i else .dead) = _
  rw [trOf_get]
  by_cases h : i < gs.length
  · rw [if_pos h, if_pos ⟨Nat.zero_le _, by omega⟩]; simp
  · rw [if_neg h]; simp [List.getElem?_eq_none (Nat.le_of_not_lt h)]
def rowSize (W : World) (g : Nat) : Nat :=
  match W.heap[g]? with
  | some (.cells ccs _ _) => ccs.size
  | _ => 0
end Go.Am

/- Plain reasoning about what is printed: heaps that grow, rows of bytes, loops. No condition. -/
namespace Go.Am
open Go
/-- h' is as h below place n -/
structure Low (n : Nat) (h h' : H) : Prop where
  base : h'.base = h.base
  next : h.next ≤ h'.next
  get : ∀ id, id < n → h'.get id = h.get id
theorem Low.refl (n : Nat) (h : H) : Low n h h := ⟨rfl, Nat.le_refl _, fun _ _ => rfl⟩
theorem Low.trans {n : Nat} {h h1 h2 : H} (a : Low n h h1) (b : Low n h1 h2) : Low n h h2 := ⟨b.base.trans a.base, Nat.le_trans a.next b.next, fun id hi => (b.get id hi).trans (a.get id hi)⟩
theorem Low.down {n m : Nat} {h h1 : H} (a : Low n h h1) (hm : m ≤ n) : Low m h h1 := ⟨a.base, a.next, fun id hi => a.get id (by omega)⟩
noncomputable def pushed (h : H) (b : Blk) : H := ⟨Tr.set h.mem h.next b, Nat.succ h.next, h.base⟩
noncomputable def putted (h : H) (i : Nat) (b : Blk) : H := ⟨Tr.set h.mem i b, h.next, h.base⟩
theorem pushed_next (h : H) (b : Blk) : (pushed h b).next = h.next + 1 := rfl
theorem pushed_get (h : H) (b : Blk) (id : Nat) : (pushed h b).get id = if id = h.next then b else h.get id := by
  rw [H.get_eq, H.get_eq]
  show (if id < h.next + 1 then Tr.get (Tr.set h.mem h.next b) id else .dead) = _
  rw [Tr.get_set]
  by_cases h1 : id = h.next
  · subst h1; rw [if_pos (by omega), if_pos rfl, if_pos rfl]
  · rw [if_neg h1, if_neg h1]
    by_cases h2 : id < h.next
    · rw [if_pos (by omega), if_pos h2]
    · rw [if_neg (by omega), if_neg h2]
theorem putted_get (h : H) (i : Nat) (b : Blk) (hi : i < h.next) (id : Nat) : (putted h i b).get id = if id = i then b else h.get id := by
  rw [H.get_eq, H.get_eq]
  show (if id < h.next then Tr.get (Tr.set h.mem i b) id else .dead) = _
  rw [Tr.get_set]
  by_cases h1 : id = i
  · subst h1; rw [if_pos hi, if_pos rfl, if_pos rfl]
  · rw [if_neg h1, if_neg h1]
theorem pushK_is (b : Blk) (h : H) (k : Nat → H → Prop) : pushK b h k = k h.next (pushed h b) := pushK_eq b h k
theorem putK_is {i : Nat} {b : Blk} {h : H} (k : H → Prop) (h1 : i < h.next) (h2 : h.base ≤ i) : putK i b h k = k (putted h i b) := by
  cases h with | mk m n bs =>
  have a1 : Nat.blt i n = true := by rw [blt_iff]; exact h1
  have a2 : Nat.ble bs i = true := by rw [ble_iff]; exact h2
  show ck (Nat.blt i n) (ck (Nat.ble bs i) (Tr.setK m i b fun m' => k ⟨m', n, bs⟩)) = _
  rw [a1, a2, Tr.setK_eq]; rfl
theorem Low.push (n : Nat) (h : H) (b : Blk) (hn : n ≤ h.next) : Low n h (pushed h b) := ⟨rfl, Nat.le_succ _, fun id hi => by rw [pushed_get, if_neg (by omega)]⟩
theorem Low.put {n : Nat} {h : H} {i : Nat} (b : Blk) (hi : i < h.next) (hn : n ≤ i) : Low n h (putted h i b) := ⟨rfl, Nat.le_refl _, fun id hl => by rw [putted_get h i b hi, if_neg (by omega)]⟩
theorem br_intro {c : Bool} {a b : Prop} (h1 : c = true → a) (h2 : c = false → b) : br c a b := by
  cases c
  · exact h2 rfl
  · exact h1 rfl
theorem ck_intro {c : Bool} {a : Prop} (h1 : c = true) (h2 : a) : ck c a := by rw [h1]; exact h2
theorem asI_int (kk : IntKind) (n : Int) (k : Int → Prop) : asI kk (.int kk n) k = k n := by
  show ck (keq kk kk) (k n) = _
  rw [(keq_iff.2 rfl : keq kk kk = true)]; rfl
theorem asS_str (s : Str) (k : Str → Prop) : asS (.str s) k = k s := rfl
theorem asB_bool (b : Bool) (k : Bool → Prop) : asB (.bool b) k = k b := rfl
theorem asAgg_agg (l : List AV) (k : List AV → Prop) : Go.Am.asAgg (.agg l) k = k l := rfl
theorem asTup_tuple (l : List AV) (k : List AV → Prop) : Go.Am.asTup (.tuple l) k = k l := rfl
theorem op'_some {α : Type} (a : α) (k : α → Prop) : op' (some a) k = k a := rfl
theorem asPtr_ptr (i o : Nat) (k : Nat → Nat → Prop) : Go.Am.asPtr (.ptr i o) k = k i o := rfl
theorem asSl_nils (n : Prop) (k : Nat → Nat → Nat → Nat → Nat → Bool → Prop) : asSl .nils n k = n := rfl
theorem asSl_slice (i o l c e : Nat) (x : Bool) (n : Prop) (k : Nat → Nat → Nat → Nat → Nat → Bool → Prop) : asSl (.slice i o l c e x) n k = k i o l c e x := rfl
theorem asRow_cells (m : Bool) (t : Nat) (cs : List AV) (k1 : Bool → Nat → List AV → Prop) (k2 : Nat → Nat → Bool → Str → Prop) : asRow' (.cells m t cs) k1 k2 = k1 m t cs := rfl
theorem asRow_bytes (t f : Nat) (g : Bool) (s : Str) (k1 : Bool → Nat → List AV → Prop) (k2 : Nat → Nat → Bool → Str → Prop) : asRow' (.bytes t f g s) k1 k2 = k2 t f g s := rfl
theorem asNat_int (kk : IntKind) (n : Nat) (k : Nat → Prop) : asNat (.int kk (Int.ofNat n)) k = k n := rfl
theorem jd_intro {α : Type} {j : α → List Dfr → H → Prop} {b : (α → List Dfr → H → Prop) → Prop} (P : α → List Dfr → H → Prop) (hb : ∀ j', (∀ v d h, P v d h → j' v d h) → b j') (hj : ∀ v d h, P v d h → j v d h) : J0.jd j b := hb _ hj
/-- a loop: what holds at each round's beginning; what is left to do falls -/
theorem lp_rule {α : Type} {body : (α → List Dfr → H → Prop) → α → List Dfr → H → Prop} (Inv : Nat → α → List Dfr → H → Prop)
    (hstep : ∀ n self v d h, Inv n v d h → (∀ n' v' d' h', n' < n → Inv n' v' d' h' → self v' d' h') → body self v d h) {n : Nat} {v : α} {d : List Dfr} {h : H} (hn : n < fuel) (hi : Inv n v d h) : J0.lp body v d h := by
  rw [J0.lp_ok]
  have go : ∀ f n v d h, n < f → Inv n v d h → loopN body f v d h := by
    intro f
    induction f with
    | zero => intro n v d h hn; omega
    | succ f ih =>
      intro n v d h hn hi
      exact hstep n (loopN body f) v d h hi fun n' v' d' h' hlt hi' => ih n' v' d' h' (by omega) hi'
  exact go fuel n v d h hn hi
/-- v: a row of bytes that was made at or above place n, told as l; g false: no text may be laid over it -/
def Row (g : Bool) (e n : Nat) (h : H) (v : AV) (l : List UInt8) : Prop :=
  (v = .nils ∧ l = []) ∨ ∃ id ex sg, v = .slice id 0 l.length l.length 1 ex ∧ n ≤ id ∧ id < h.next ∧ h.get id = .bytes e 0 sg (Str.of l) ∧ (g = false → sg = false)
theorem Row.nil (g : Bool) (e n : Nat) (h : H) : Row g e n h .nils [] := .inl ⟨rfl, rfl⟩
theorem Row.down {g : Bool} {e n m : Nat} {h : H} {v : AV} {l : List UInt8} (r : Row g e n h v l) (hm : m ≤ n) : Row g e m h v l := by
  rcases r with r | ⟨id, ex, sg, r1, r2, r3⟩
  · exact .inl r
  · exact .inr ⟨id, ex, sg, r1, by omega, r3⟩
theorem Row.low {g : Bool} {e n m : Nat} {h h' : H} {v : AV} {l : List UInt8} (r : Row g e n h v l) (hl : Low m h h') (hm : h.next ≤ m) : Row g e n h' v l := by
  rcases r with r | ⟨id, ex, sg, r1, r2, r3, r4, r5⟩
  · exact .inl r
  · exact .inr ⟨id, ex, sg, r1, r2, by have := hl.next; omega, by rw [hl.get id (by omega)]; exact r4, r5⟩
theorem of_len (l : List UInt8) : (Str.of l).len = l.length := rfl
theorem of_nil : (⟨0, 0⟩ : Str) = Str.of [] := rfl
theorem Row.push {g : Bool} {e n : Nat} {h : H} {l : List UInt8} (sg ex : Bool) (hn : n ≤ h.next) (hg : g = false → sg = false := by intro h; first | rfl | (cases h; done)) : Row g e n (pushed h (.bytes e 0 sg (Str.of l))) (.slice h.next 0 l.length l.length 1 ex) l :=
  .inr ⟨h.next, ex, sg, rfl, hn, by rw [pushed_next]; omega, by rw [pushed_get, if_pos rfl], hg⟩
theorem Row.str {g : Bool} {e n : Nat} {h : H} {v : AV} {l : List UInt8} (r : Row g e n h v l) (k : Str → Prop) : toStrK v h k = k (Str.of l) := by
  rcases r with ⟨rfl, rfl⟩ | ⟨id, ex, sg, rfl, r2, r3, r4, r5⟩
  · rfl
  · unfold toStrK
    rw [asSl_slice, r4, asRow_bytes, fN_eq]
    show ck (Nat.ble (0 + l.length) l.length) _ = _
    have : Nat.ble (0 + l.length) l.length = true := by rw [ble_iff]; omega
    rw [this, fS_eq]
    show k ((Str.of l).sub 0 (0 + l.length)) = _
    rw [Str.sub_of l 0 _ (by omega) (by omega)]
    congr 2; simp
theorem Row.len {g : Bool} {e n : Nat} {h : H} {v : AV} {l : List UInt8} (r : Row g e n h v l) (k : Nat → Prop) : lenK v k = k l.length := by
  rcases r with ⟨rfl, rfl⟩ | ⟨id, ex, sg, rfl, r2, r3, r4, r5⟩ <;> rfl
/-- bytes behind a row of one's own -/
theorem apB_row {g : Bool} {kd : Kd} {e n : Nat} {h : H} {v x : AV} {l m : List UInt8} {k : AV → H → Prop} (r : Row g e n h v l) (hb : h.base ≤ n) (hn : n ≤ h.next)
    (hx : ∀ f : Str → Prop, srcB kd x h f = f (Str.of m)) (hl : l.length + m.length ≤ mostRoom) (hk : ∀ v' h', Row g e n h' v' (l ++ m) → Low n h h' → k v' h') : apB kd e v x h k := by
  unfold apB
  rw [hx]
  rcases r with ⟨rfl, rfl⟩ | ⟨id, ex, sg, rfl, r2, r3, r4, r5⟩
  · rw [asSl_nils, of_len]
    refine br_intro (fun h0 => ?_) fun h0 => ck_intro ?_ ?_
    · rw [Nat.beq_eq] at h0
      obtain rfl := List.length_eq_zero_iff.1 h0
      exact hk _ _ (Row.nil g e n h) (Low.refl n h)
    · rw [ble_iff]; simpa using hl
    · rw [pushK_is]
      exact hk _ _ (Row.push false false hn (fun _ => rfl)) (Low.push n h _ hn)
  · rw [asSl_slice, r4, asRow_bytes, fN_eq, fN_eq, of_len]
    refine br_intro (fun h0 => ?_) fun h0 => ?_
    · have h0 : l.length + m.length ≤ l.length := (ble_iff _ _).1 h0
      obtain rfl : m = [] := List.length_eq_zero_iff.1 (by omega)
      exact hk _ _ (by rw [List.append_nil]; exact .inr ⟨id, ex, sg, rfl, r2, r3, r4, r5⟩) (Low.refl n h)
    · refine ck_intro (by rw [ble_iff]; exact hl) (ck_intro (by rw [ble_iff]; show 0 + l.length ≤ l.length; omega) ?_)
      rw [fS_eq]
      have e1 : ((Str.of l).sub 0 (Nat.add 0 l.length)).cat (Str.of m) = Str.of (l ++ m) := by
        show ((Str.of l).sub 0 (0 + l.length)).cat (Str.of m) = _
        rw [Str.sub_of l 0 _ (by omega) (by omega), Str.cat_of]
        congr 2; simp
      rw [e1]
      have e2 : Nat.add l.length m.length = (l ++ m).length := by simp
      rw [e2]
      refine br_intro (fun _ => ?_) fun _ => ?_
      · rw [pushK_is]
        exact hk _ _ (Row.push false false hn (fun _ => rfl)) (Low.push n h _ hn)
      · refine ck_intro rfl (ck_intro (by rw [Nat.beq_eq]) (ck_intro ?_ ?_))
        · show apB.br' _ _ _ = true
          unfold apB.br'
          cases Nat.blt 0 l.length
          · rfl
          · show Nat.ble 0 _ = true
            rw [ble_iff]; exact Nat.zero_le _
        · rw [putK_is _ r3 (by omega), pushK_is]
          have h1 := Low.put (n := n) (h := h) .dead r3 r2
          have h2 := Low.push n (putted h id .dead) (.bytes e 0 sg (Str.of (l ++ m))) hn
          exact hk _ _ (Row.push sg false hn r5) (h1.trans h2)
theorem wrapF_nat {kk : IntKind} {m : Nat} (h : m < kHi kk) : wrapF kk (Int.ofNat m) = Int.ofNat m := by rw [wrapF_eq]; exact wrap_nat kk m h
theorem wrap_i64_in {n : Int} (h1 : -9223372036854775808 ≤ n) (h2 : n < 9223372036854775808) : wrapF .i64 n = n := by
  obtain ⟨q, h3, h4, h5⟩ := wrap_i64 n; omega
theorem ltI_true {a b : Int} : ltI a b = true ↔ a < b := by rw [ltI_eq]; simp
theorem ltI_false {a b : Int} : ltI a b = false ↔ b ≤ a := by rw [ltI_eq]; simp
theorem eqI_true {a b : Int} : eqI a b = true ↔ a = b := by rw [eqI_eq]; simp
theorem eqI_false {a b : Int} : eqI a b = false ↔ a ≠ b := by rw [eqI_eq]; simp
theorem not_true {b : Bool} : Bool.not b = true ↔ b = false := by cases b <;> simp
theorem not_false' {b : Bool} : Bool.not b = false ↔ b = true := by cases b <;> simp
/-- a byte as a number -/
def bI (c : UInt8) : Int := Int.ofNat c.toNat
theorem ixs_of {m : List UInt8} {i : Nat} (h : i < m.length) {kk : IntKind} (k : Int → Prop) : ixsK (.str (Str.of m)) (.int kk (Int.ofNat i)) k = k (bI m[i]) := by
  show ck (Nat.blt i m.length) (fN ((Str.of m).get i) fun c => k (Int.ofNat c)) = _
  rw [(blt_iff _ _).2 h, fN_eq, Str.get_of _ _ h]; rfl
theorem reads_self {o : Option AV} {v : AV} (h : o = some v) (hs : AV.same v v = true) : readsSo o v = true := by rw [h]; exact hs
theorem ldV_at {h : H} {i o : Nat} {m : Bool} {t : Nat} {cs : List AV} {v : AV} (g : h.get i = .cells m t cs) (e : lgetO cs o = some v) (k : AV → Prop) : ldV (.ptr i o) h k = k v := by
  show asRow' (h.get i) _ _ = _
  rw [g]; show op' (lgetO cs o) k = _
  rw [e]; rfl
theorem ldI_at {h : H} {i o : Nat} {m : Bool} {t : Nat} {cs : List AV} {kk : IntKind} {x : Int} (g : h.get i = .cells m t cs) (e : lgetO cs o = some (.int kk x)) (k : Int → Prop) : ldI kk (.ptr i o) h k = k x := by
  unfold ldI; rw [ldV_at g e, asI_int]
theorem ldS_at {h : H} {i o : Nat} {m : Bool} {t : Nat} {cs : List AV} {x : Str} (g : h.get i = .cells m t cs) (e : lgetO cs o = some (.str x)) (k : Str → Prop) : ldS (.ptr i o) h k = k x := by
  unfold ldS; rw [ldV_at g e, asS_str]
theorem ldB_at {h : H} {i o : Nat} {m : Bool} {t : Nat} {cs : List AV} {x : Bool} (g : h.get i = .cells m t cs) (e : lgetO cs o = some (.bool x)) (k : Bool → Prop) : ldB (.ptr i o) h k = k x := by
  unfold ldB; rw [ldV_at g e, asB_bool]
theorem ldN_at {h : H} {i o n : Nat} {m : Bool} {t : Nat} {cs l : List AV} (g : h.get i = .cells m t cs) (e : ltake n (ldrop o cs) = some l) (k : List AV → Prop) : ldN n (.ptr i o) h k = k l := by
  show asRow' (h.get i) _ _ = _
  rw [g]; show op' (ltake n (ldrop o cs)) k = _
  rw [e]; rfl
theorem stV_at {h : H} {i o : Nat} {m : Bool} {t : Nat} {cs cs' : List AV} {x : AV} (g : h.get i = .cells m t cs) (h1 : isOne x = true) (e : lputAt o [x] cs = some cs') (hi : i < h.next) (hb : h.base ≤ i) (k : H → Prop) : stV (.ptr i o) x h k = k (putted h i (.cells m t cs')) := by
  show asRow' (h.get i) _ _ = _
  rw [g]; show ck (isOne x) (op' (lputAt o [x] cs) fun cs' => putK i (.cells m t cs') h k) = _
  rw [h1, e]; show putK i _ h k = _
  exact putK_is k hi hb
theorem stN_at {h : H} {i o n : Nat} {m : Bool} {t : Nat} {cs cs' xs : List AV} (g : h.get i = .cells m t cs) (h0 : xs.length = n) (h1 : allOnes xs = true) (e : lputAt o xs cs = some cs') (hi : i < h.next) (hb : h.base ≤ i) (k : H → Prop) : stN n (.ptr i o) xs h k = k (putted h i (.cells m t cs')) := by
  show asRow' (h.get i) _ _ = _
  rw [g]; show ck (Nat.beq xs.length n) (ck (allOnes xs) (op' (lputAt o xs cs) fun cs' => putK i (.cells m t cs') h k)) = _
  rw [h1, e, (Nat.beq_eq ▸ h0 : Nat.beq xs.length n = true)]; show putK i _ h k = _
  exact putK_is k hi hb
theorem aLoad1_at {h : H} {i o : Nat} {m : Bool} {t : Nat} {cs : List AV} (g : h.get i = .cells m t cs) : aLoad1 (.ptr i o) h = lgetO cs o := by
  unfold aLoad1; simp only [g]
theorem jn_is (j : AV → H → Prop) (b : (AV → H → Prop) → Prop) : J0.jn j b = b j := rfl
theorem jd_is {α : Type} (j : α → List Dfr → H → Prop) (b : (α → List Dfr → H → Prop) → Prop) : J0.jd j b = b j := rfl
theorem br_t (a b : Prop) : br true a b = a := rfl
theorem br_f (a b : Prop) : br false a b = b := rfl
theorem ck_t (a : Prop) : ck true a = a := rfl
theorem asBU_bool (b : Bool) (k : Bool → Prop) (n : Prop) : asBU (.bool b) k n = k b := rfl
theorem asBU_skip (k : Bool → Prop) (n : Prop) : asBU skipV k n = n := rfl
theorem pickB_t (a b : AV) (k : Bool → Prop) : pickB (.bool true) a b k = asB a k := rfl
theorem pickB_f (a b : AV) (k : Bool → Prop) : pickB (.bool false) a b k = asB b k := rfl
theorem ixK1 {id len cap es i : Nat} {ex : Bool} {kk : IntKind} (hi : i < len) (k : AV → Prop) : ixK 1 (.slice id 0 len cap es ex) (.int kk (Int.ofNat i)) k = k (.ptr id i) := by
  show ck (Nat.blt i len) (fN (Nat.add 0 (Nat.mul i 1)) fun o => k (.ptr id o)) = _
  rw [(blt_iff _ _).2 hi, fN_eq]
  have e : Nat.add 0 (Nat.mul i 1) = i := by show 0 + i * 1 = i; omega
  rw [e]; rfl
theorem lgetO_get {α : Type} : ∀ {l : List α} {i : Nat} (h : i < l.length), lgetO l i = some l[i]
  | a :: l, 0, _ => rfl
  | a :: l, i + 1, h => by
    show lgetO l i = _
    rw [lgetO_get (l := l) (i := i) (by simpa using h)]; rfl
theorem okNil_ptr (i o : Nat) (p : Prop) : okNil (.ptr i o) p = p := rfl
theorem faK_ptr (off i o : Nat) (k : AV → Prop) : faK off (.ptr i o) k = k (.ptr i (Nat.add o off)) := by
  show fN (Nat.add o off) (fun o => k (.ptr i o)) = _
  rw [fN_eq]
theorem beq_lit (a b : List UInt8) : Str.beq (Str.of a) (Str.of b) = decide (a = b) := by
  rw [Str.beq_of]
  cases h : decide (a = b) with
  | true => rw [of_decide_eq_true h]; simp
  | false => have := of_decide_eq_false h; simp [this]
end Go.Am

/- Calls that hang on their arguments alone: a summary over a small heap of what they read; the caller's heap is told as it was. No condition. -/
namespace Go.Am
open Go
/-- μ, below place n alone -/
def cutMu (μ : Mu) (n : Nat) : Mu := ⟨fun id => if id < n then μ id else none, μ.sz⟩
theorem cutMu_lt {μ : Mu} {n id : Nat} (h : id < n) : cutMu μ n id = μ id := if_pos h
theorem cutMu_ge {μ : Mu} {n id : Nat} (h : n ≤ id) : cutMu μ n id = none := if_neg (by omega)
theorem cutMu_some {μ : Mu} {n id : Nat} {p : Nat × Nat} (h : cutMu μ n id = some p) : id < n ∧ μ id = some p := by
  by_cases hi : id < n
  · exact ⟨hi, by rw [← cutMu_lt hi]; exact h⟩
  · rw [cutMu_ge (by omega)] at h; cases h
/-- a small heap, all of it read alone, which stands in h as it is -/
structure Sub (h0 h : H) : Prop where
  full : h0.base = h0.next
  le : h0.next ≤ h.base
  get : ∀ id, id < h0.next → h0.get id = h.get id
theorem Sub.empty (h : H) : Sub H0 h := ⟨rfl, Nat.zero_le _, fun _ hi => absurd hi (Nat.not_lt_zero _)⟩
theorem Sub.low {h0 h h' : H} {n : Nat} (s : Sub h0 h) (l : Low n h h') (hn : h0.next ≤ n) : Sub h0 h' := ⟨s.full, by rw [l.base]; exact s.le, fun id hi => (s.get id hi).trans (l.get id (by omega)).symm⟩
theorem BlkRelU.cut {μ : Mu} {w : World} {b d n : Nat} {k : Blk} {u : Bool} (h : BlkRelU u μ w b d k) (hk : (∃ m t cs, k = .cells m t cs ∧ AV.underL n cs) ∨ (∃ t f g s, k = .bytes t f g s) ∨ k = .dead) : BlkRelU u (cutMu μ n) w b d k := by
  rcases hk with ⟨m, t, cs, rfl, hu⟩ | ⟨t, f, g, s, rfl⟩ | rfl
  · obtain ⟨ccs, fr, h1, h2, h3⟩ := h
    refine ⟨ccs, fr, h1, fun i a ha => ?_, h3⟩
    obtain ⟨v, hv, hr⟩ := h2 i a ha
    refine ⟨v, hv, AV.rel_down (μ := cutMu μ n) (μ' := μ) (n := n) (fun id hi => ⟨(cutMu_lt hi).symm, rfl⟩) a v ?_ hr⟩
    have : ∀ (l : List AV) (i : Nat) (a : AV), AV.underL n l → l[i]? = some a → AV.under n a := by
      intro l
      induction l with
      | nil => intro i a _ h; simp at h
      | cons b l ih =>
        intro i a hu ha
        cases i with
        | zero => simp at ha; subst ha; exact hu.1
        | succ i => exact ih i a hu.2 (by simpa using ha)
    exact this cs i a hu ha
  · exact h
  · trivial
/-- a small heap's blocks are rows -/
def AllRows (h0 : H) : Prop := ∀ id, id < h0.next → (∃ m t cs, h0.get id = .cells m t cs ∧ AV.underL h0.next cs) ∨ (∃ t f g s, h0.get id = .bytes t f g s) ∨ h0.get id = .dead
theorem AllRows.empty : AllRows H0 := fun _ hi => absurd hi (Nat.not_lt_zero _)
theorem rel_cut {μ : Mu} {h0 h : H} {w : World} (hr : Rel μ h w) (s : Sub h0 h) (hs : AllRows h0) : Rel (cutMu μ h0.next) h0 w := by
  refine ⟨⟨by rw [s.full]; exact Nat.le_refl _⟩, fun id b d hm => ?_, fun i j b d e hi hj li lj hbj => ?_, fun id b d hm => ?_, fun id b d ccs t fr hm hc => ?_, fun g t cs hg hc => ?_⟩
  · obtain ⟨h1, h2⟩ := cutMu_some hm
    exact ⟨h1, (hr.dom id b d h2).2⟩
  · obtain ⟨h1, h2⟩ := cutMu_some hi
    obtain ⟨h3, h4⟩ := cutMu_some hj
    rw [s.full] at hbj
    exact absurd h3 (Nat.not_lt.2 hbj)
  · obtain ⟨h1, h2⟩ := cutMu_some hm
    refine BlkRelU.cut ?_ (hs id h1)
    have hf : Nat.ble h0.base id = false := by
      cases hb : Nat.ble h0.base id
      · rfl
      · rw [ble_iff, s.full] at hb; omega
    have hf2 : Nat.ble h.base id = false := by
      cases hb : Nat.ble h.base id
      · rfl
      · rw [ble_iff] at hb; have := s.le; omega
    have := hr.blk id b d h2
    rw [hf2] at this
    rw [s.get id h1, hf]; exact this
  · obtain ⟨h1, h2⟩ := cutMu_some hm
    exact hr.cnt id b d ccs t fr h2 hc
  · rw [s.full] at hg
    rw [cutMu_lt hg]
    exact hr.glb g t cs (Nat.lt_of_lt_of_le hg s.le) (by rw [← s.get g hg]; exact hc)
theorem Rel.same {μ : Mu} {h : H} {w w' : World} (hr : Rel μ h w) (hz : w.heap.size ≤ w'.heap.size) (hb : ∀ b, b < w.heap.size → w'.heap[b]? = w.heap[b]?) : Rel μ h w' := by
  refine ⟨hr.wf, fun id b d hm => ⟨(hr.dom id b d hm).1, Nat.lt_of_lt_of_le (hr.dom id b d hm).2 hz⟩, hr.inj, fun id b d hm => ?_, fun id b d ccs t fr hm hc => ?_, hr.glb⟩
  · exact BlkRelU.mono (Le.refl μ) (hr.blk id b d hm) fun _ => hb b (hr.dom id b d hm).2
  · rw [hb b (hr.dom id b d hm).2] at hc
    exact hr.cnt id b d ccs t fr hm hc
/-- what a call over a small heap leaves of the whole one -/
theorem alone_post {μ μ1 : Mu} {h0 h h1 : H} {w w' : World} {r : AV} {v : Value} (hR : Rel μ h w) (p : Post (cutMu μ h0.next) h0 w μ1 h1 w') (hv : r.rel μ1 v) (s : Sub h0 h) (hu : r.under h0.next) : r.rel μ v ∧ Post μ h w μ h w' := by
  have hb : ∀ b, b < w.heap.size → w'.heap[b]? = w.heap[b]? := fun b hlt => p.frame.block b hlt fun id d h1 h2 => by
    obtain ⟨h3, _⟩ := cutMu_some h2
    rw [s.full] at h1
    exact absurd h3 (Nat.not_lt.2 h1)
  refine ⟨?_, ⟨fun _ _ => ⟨rfl, rfl⟩, hR.same p.frame.size hb, ⟨p.frame.os, p.frame.tape, p.frame.output, p.frame.size, fun b hlt _ => hb b hlt⟩, Grows.refl μ h, fun id b d hi hm => absurd (hR.dom id b d hm).1 (by omega)⟩⟩
  have h2 := AV.rel_down (μ := cutMu μ h0.next) (μ' := μ1) (n := h0.next) p.ext r v hu hv
  exact AV.rel_mono (μ := cutMu μ h0.next) (μ' := μ) (fun id p hm => ⟨(cutMu_some hm).2, rfl⟩) r v h2
/-- what a function answers over a small heap, over a greater one -/
noncomputable def aloneF (g : Fun) : Fun := fun as h k => ∃ h0, Sub h0 h ∧ AllRows h0 ∧ AV.underL h0.next as ∧ g as h0 fun r _ => AV.under h0.next r ∧ k r h
theorem FunOk.alone {P : Program} {f : FuncId} {g : Fun} (hg : FunOk P f g) : FunOk P f (aloneF g) := by
  intro as h Q ⟨h0, s, hs, hu, e⟩ μ w args hR ha
  have hR0 := rel_cut hR s hs
  have ha0 : AV.relL (cutMu μ h0.next) as args.toList := AV.relL_down (μ := cutMu μ h0.next) (μ' := μ) (n := h0.next) (fun id hi => ⟨(cutMu_lt hi).symm, rfl⟩) as _ hu ha
  rcases hg as h0 _ e (cutMu μ h0.next) w args hR0 ha0 with ⟨v, w', μ1, r, h1, q1, q2, q3, q4, q5⟩ | ⟨q1, q2⟩
  · obtain ⟨r1, r2⟩ := alone_post hR q3 q2 s q4
    exact .inl ⟨v, w', μ, r, h, q1, r1, r2, q5⟩
  · refine .inr ⟨q1, Calls.mono q2 fun e w' ⟨v, μ1, r, h1, p1, p2, p3, p4, p5⟩ => ?_⟩
    obtain ⟨r1, r2⟩ := alone_post hR p3 p2 s p4
    exact ⟨v, μ, r, h, p1, r1, r2, p5⟩
end Go.Am

/- Arguments that hold slices: rows that are read alone, told in a heap of their own. No condition. -/
namespace Go.Am
open Go Go.ChangeShapes Go.WideShapes Go.RowKit
theorem rowAt_le {P : Program} {fits : TypeId → Bool} : ∀ {d : Nat} {e : TypeId} {count off n : Nat}, rowAt P fits d e count off n = true → off ≤ count * P.cellsOf e
  | 0, _, _, _, _, h => by unfold rowAt at h; cases h
  | d + 1, e, count, off, n, h => by
    unfold rowAt at h
    simp only at h
    split at h
    · cases h
    · rename_i hs
      have hs : 0 < P.cellsOf e := Nat.pos_of_ne_zero hs
      have hdm := Nat.div_add_mod off (P.cellsOf e)
      have hml := Nat.mod_lt off hs
      rw [Bool.or_eq_true] at h
      rcases h with h | h
      · simp only [Bool.and_eq_true, beq_iff_eq, decide_eq_true_eq] at h
        have h1 := Nat.mul_le_mul_right (P.cellsOf e) (show off / P.cellsOf e ≤ count by omega)
        rw [Nat.mul_comm (off / P.cellsOf e)] at h1; omega
      · rw [Bool.and_eq_true, decide_eq_true_eq] at h
        have h1 := Nat.mul_le_mul_right (P.cellsOf e) (show off / P.cellsOf e + 1 ≤ count by omega)
        rw [Nat.add_mul, Nat.mul_comm (off / P.cellsOf e)] at h1; omega
theorem liesAt_le {P : Program} : ∀ {d : Nat} {e : TypeId} {count off : Nat} {u : TypeId} {n : Nat}, liesAt P d e count off u n = true → off ≤ count * P.cellsOf e
  | 0, _, _, _, _, _, h => by unfold liesAt at h; cases h
  | d + 1, e, count, off, u, n, h => by
    unfold liesAt at h
    rw [Bool.or_eq_true] at h
    rcases h with h | h
    · exact rowAt_le h
    · split at h
      · exact liesAt_le h
      · cases h
theorem has_row {P : Program} {w : World} {r : Reach} {base : Nat} {a : Addr} {e : TypeId} {n : Nat} (h : w.has P r base a e n) : a.spot = none ∧ ∃ ccs t fr, w.heap[a.block]? = some (.cells ccs t fr) ∧ a.off ≤ ccs.size := by
  obtain ⟨_, h1, row, cells, h2, h3⟩ := h
  refine ⟨h1, ?_⟩
  unfold World.shape? at h2
  split at h2
  · rename_i ccs t fr hc
    injection h2 with h2; injection h2 with e1 e2; subst e1 e2
    refine ⟨ccs, t, fr, hc, ?_⟩
    have := liesAt_le h3
    have h4 := Nat.div_mul_le_self ccs.size (P.cellsOf t)
    omega
  · cases h2
theorem mapM_some {α β : Type} {f : α → Option β} : ∀ {l : List α} {r : List β}, l.mapM f = some r → ∀ a ∈ l, ∃ b ∈ r, f a = some b
  | [], _, _, a, ha => by cases ha
  | x :: l, r, h, a, ha => by
    rw [List.mapM_cons] at h
    cases hx : f x with
    | none => rw [hx] at h; cases h
    | some y =>
      cases hl : l.mapM f with
      | none => rw [hx, hl] at h; cases h
      | some ys =>
        rw [hx, hl] at h
        have h : some (y :: ys) = some r := h
        injection h with h; subst h
        rcases List.mem_cons.1 ha with rfl | ha
        · exact ⟨y, List.mem_cons_self, hx⟩
        · obtain ⟨b, hb, e⟩ := mapM_some hl a ha
          exact ⟨b, List.mem_cons_of_mem _ hb, e⟩
section
variable {H' : Type} {enc : TypeId × Value → H'} {P : Program} {w : World} {base : Nat} {sp : Nat → Bool} {hd : Bool}
theorem trod_field {t : TypeId} {fs : Array Field} {fuel : Nat} {cs : List Value} {y : DataW H' × List MemPlace} (ht : P.underlying t = some (.struct fs)) (h : DataW.trod enc P w base sp hd fuel t cs = some y) {f : Field} (hf : f ∈ fs.toList) :
    ∃ fuel' y', DataW.trod enc P w base sp hd fuel' f.type ((cs.drop f.offset).take (P.cellsOf f.type)) = some y' := by
  cases fuel with
  | zero => unfold DataW.trod at h; cases h
  | succ fuel =>
    unfold DataW.trod at h
    simp only [ht] at h
    split at h
    · cases hm : fs.toList.mapM fun f => DataW.trod enc P w base sp hd fuel f.type ((cs.drop f.offset).take (P.cellsOf f.type)) with
      | none => rw [hm] at h; cases h
      | some xs =>
        obtain ⟨b, _, e⟩ := mapM_some hm f hf
        exact ⟨fuel, b, e⟩
    · cases h
theorem trod_field_at {t : TypeId} {fs : Array Field} {fuel : Nat} {cs : List Value} {y : DataW H' × List MemPlace} (ht : P.underlying t = some (.struct fs)) (h : DataW.trod enc P w base sp hd fuel t cs = some y) (i : Nat) {f : Field} (hf : fs.toList[i]? = some f) :
    ∃ fuel' y', DataW.trod enc P w base sp hd fuel' f.type ((cs.drop f.offset).take (P.cellsOf f.type)) = some y' := trod_field ht h (List.mem_of_getElem? hf)
theorem trod_string {t : TypeId} {fuel : Nat} {v : Value} {y : DataW H' × List MemPlace} (ht : P.underlying t = some .string) (h : DataW.trod enc P w base sp hd fuel t [v] = some y) : ∃ s, v = .string s ∧ s.size ≤ maxLen := by
  cases fuel with
  | zero => unfold DataW.trod at h; cases h
  | succ fuel =>
    unfold DataW.trod at h
    simp only [ht] at h
    cases v <;> simp only at h <;> first | (cases h; done) | skip
    split at h
    · rename_i hs; exact ⟨_, rfl, hs⟩
    · cases h
theorem cells_one {a : Addr} {cs : List Value} (h : w.cells? base a 1 = some cs) : ∃ v, cs = [v] ∧ w.cell? a = some v := by
  unfold World.cells? at h
  split at h
  · have e : (List.range 1).mapM (fun i => w.cell? (a.add i)) = (w.cell? (a.add 0)).bind fun v => some [v] := by
      show [0].mapM _ = _
      rw [List.mapM_cons]
      cases w.cell? (a.add 0) <;> rfl
    rw [e] at h
    have e0 : a.add 0 = a := by unfold Addr.add; rw [if_pos rfl]
    rw [e0] at h
    cases hc : w.cell? a with
    | none => rw [hc] at h; cases h
    | some v => rw [hc] at h; injection h with h; exact ⟨v, h.symm, rfl⟩
  · cases h
theorem cell_add {b o i : Nat} {ccs : Array Value} {t : TypeId} {fr : Nat × Nat} {v : Value} (hb : w.heap[b]? = some (.cells ccs t fr)) (h : w.cell? ((⟨b, o, none⟩ : Addr).add i) = some v) : ccs[o + i]? = some v := by
  have e : (⟨b, o, none⟩ : Addr).add i = ⟨b, o + i, none⟩ := by
    unfold Addr.add; split
    · rename_i h0; subst h0; rfl
    · rfl
  rw [e] at h
  unfold World.cell? at h
  simp only [hb] at h
  exact h
end
end Go.Am

/- Calls that read and write one object alone: a summary over a heap of that object alone; the caller's heap is told with the object as it is behind the call. No condition. -/
namespace Go.Am
open Go
mutual
/-- a value that names no block -/
def AV.flat : AV → Bool
  | .bool _ => true
  | .int _ _ => true
  | .str _ => true
  | .nilp => true
  | .nils => true
  | .nilm => true
  | .nilf => true
  | .nili => true
  | .junk => true
  | .agg cs => AV.flatL cs
  | .tuple cs => AV.flatL cs
  | _ => false
def AV.flatL : List AV → Bool
  | [] => true
  | a :: as => AV.flat a && AV.flatL as
end
mutual
theorem AV.flat_rel {μ μ' : Mu} : ∀ (a : AV) (v : Value), a.flat = true → a.rel μ v → a.rel μ' v
  | .bool _, _, _, h => by simpa [AV.rel] using h
  | .int _ _, _, _, h => by simpa [AV.rel] using h
  | .str _, _, _, h => by simpa [AV.rel] using h
  | .nilp, _, _, h => by simpa [AV.rel] using h
  | .nils, _, _, h => by simpa [AV.rel] using h
  | .nilm, _, _, h => by simpa [AV.rel] using h
  | .nilf, _, _, h => by simpa [AV.rel] using h
  | .nili, _, _, h => by simpa [AV.rel] using h
  | .junk, _, _, _ => by simp [AV.rel]
  | .agg cs, v, hf, h => by
    simp only [AV.rel, AV.flat] at h hf ⊢
    obtain ⟨vs, h1, h2⟩ := h; exact ⟨vs, h1, AV.flatL_rel cs _ hf h2⟩
  | .tuple cs, v, hf, h => by
    simp only [AV.rel, AV.flat] at h hf ⊢
    obtain ⟨vs, h1, h2⟩ := h; exact ⟨vs, h1, AV.flatL_rel cs _ hf h2⟩
  | .ptr _ _, _, hf, _ => by simp [AV.flat] at hf
  | .slice _ _ _ _ _ _, _, hf, _ => by simp [AV.flat] at hf
  | .map _, _, hf, _ => by simp [AV.flat] at hf
  | .func _ _ _, _, hf, _ => by simp [AV.flat] at hf
  | .iface _ _, _, hf, _ => by simp [AV.flat] at hf
  | .yield _, _, hf, _ => by simp [AV.flat] at hf
  | .glob _ _, _, hf, _ => by simp [AV.flat] at hf
theorem AV.flatL_rel {μ μ' : Mu} : ∀ (l : List AV) (vs : List Value), AV.flatL l = true → AV.relL μ l vs → AV.relL μ' l vs
  | [], _, _, h => by simpa [AV.relL] using h
  | a :: as, vs, hf, h => by
    simp only [AV.relL, AV.flatL, Bool.and_eq_true] at h hf ⊢
    obtain ⟨v, vs', h1, h2, h3⟩ := h; exact ⟨v, vs', h1, AV.flat_rel a _ hf.1 h2, AV.flatL_rel as _ hf.2 h3⟩
end
theorem flatL_get : ∀ {l : List AV} {i : Nat} {a : AV}, AV.flatL l = true → l[i]? = some a → a.flat = true
  | [], i, a, _, h => by simp at h
  | b :: l, 0, a, hf, h => by
    simp only [AV.flatL, Bool.and_eq_true] at hf
    simp at h; subst h; exact hf.1
  | b :: l, i + 1, a, hf, h => by
    simp only [AV.flatL, Bool.and_eq_true] at hf
    exact flatL_get hf.2 (by simpa using h)
/-- the heap of one object alone -/
noncomputable def hOne (b : Blk) : H := ⟨Tr.set .lf 0 b, 1, 0⟩
theorem hOne_get (b : Blk) : (hOne b).get 0 = b := rfl
theorem cells_flat {μ μ' : Mu} {w : World} {b d : Nat} {m : Bool} {t : Nat} {cs : List AV} (hf : AV.flatL cs = true) (h : BlkRel μ w b d (.cells m t cs)) : BlkRel μ' w b d (.cells m t cs) := by
  obtain ⟨ccs, fr, h1, h2, h3, h4⟩ := h
  exact ⟨ccs, fr, h1, fun i a ha => let ⟨v, hv, hr⟩ := h2 i a ha; ⟨v, hv, AV.flat_rel a v (flatL_get hf ha) hr⟩, h3, h4⟩
def muOne (μ : Mu) (id : Nat) : Mu := ⟨fun i => if i = 0 then μ id else none, fun i => if i = 0 then μ.sz id else 0⟩
/-- what a call over one object leaves of the whole heap -/
theorem own_post {μ μ1 : Mu} {h h1 : H} {w w' : World} {id t b d : Nat} {cs cs' : List AV} (hR : Rel μ h w) (hm : μ id = some (b, d)) (hb : h.base ≤ id) (hg : h.get id = .cells false t cs)
    (p : Post (muOne μ id) (hOne (.cells false t cs)) w μ1 h1 w') (hg1 : h1.get 0 = .cells false t cs') (hf' : AV.flatL cs' = true) : Post μ h w μ (putted h id (.cells false t cs')) w' := by
  have hid := (hR.dom id b d hm).1
  have hm0 : muOne μ id 0 = some (b, d) := by show (if (0 : Nat) = 0 then μ id else none) = _; rw [if_pos rfl]; exact hm
  have hm1 : μ1 0 = some (b, d) := by rw [(p.ext 0 Nat.one_pos).1]; exact hm0
  have hs1 : μ1.sz 0 = μ.sz id := by rw [(p.ext 0 Nat.one_pos).2]; show (if (0 : Nat) = 0 then μ.sz id else 0) = _; rw [if_pos rfl]
  have other : ∀ c, c < w.heap.size → c ≠ b → w'.heap[c]? = w.heap[c]? := fun c hc hne => p.frame.block c hc fun i e _ hi => by
    have hi : (if i = 0 then μ id else none) = some (c, e) := hi
    by_cases h0 : i = 0
    · rw [if_pos h0, hm] at hi; injection hi with hi; injection hi with e1 e2; exact absurd e1.symm hne
    · rw [if_neg h0] at hi; cases hi
  have hlive : (h.get id).live = true := by rw [hg]; rfl
  have hpg : ∀ i, (putted h id (.cells false t cs')).get i = if i = id then .cells false t cs' else h.get i := fun i => putted_get h id _ hid i
  have hsz := p.frame.size
  have hcnt : ∀ ccs tt fr, w'.heap[b]? = some (.cells ccs tt fr) → ∀ i e, μ i = some (b, e) → ccs.size = μ.sz i := fun ccs tt fr hw i e hi => by
    have h2 := p.rel.cnt 0 b d ccs tt fr hm1 hw
    rw [hs1] at h2
    have hold := hR.blk id b d hm
    rw [hg] at hold
    obtain ⟨ccs0, fr0, q1, _⟩ := hold
    rw [h2, ← hR.cnt id b d ccs0 t fr0 hm q1, hR.cnt i b e ccs0 t fr0 hi q1]
  have hblk : BlkRel μ w' b d (.cells false t cs') := by
    have h2 := p.rel.blk 0 b d hm1
    rw [hg1] at h2
    have hb1 : h1.base = 0 := p.grows.base
    exact cells_flat hf' (h2.full (by rw [ble_iff, hb1]; exact Nat.zero_le _))
  refine ⟨fun _ _ => ⟨rfl, rfl⟩, ⟨⟨hR.wf.low⟩, fun i c e hi => ⟨(hR.dom i c e hi).1, Nat.lt_of_lt_of_le (hR.dom i c e hi).2 hsz⟩, fun i j c e f hi hj li lj hbj => ?_, fun i c e hi => ?_, fun i c e ccs tt fr hi hw => ?_, ?_⟩, ⟨p.frame.os, p.frame.tape, p.frame.output, hsz, fun c hc hn => other c hc fun e => ?_⟩, ⟨Nat.le_refl _, rfl, fun i hi hn => ?_, fun i hi => ?_, fun i hi hl => ?_⟩, fun i c e hi hi2 => absurd (hR.dom i c e hi2).1 (by have : h.next ≤ i := hi; omega)⟩
  · have live : ∀ q, ((putted h id (.cells false t cs')).get q).live = true → (h.get q).live = true := fun q hq => by
      rw [hpg] at hq
      by_cases e : q = id
      · rw [e]; exact hlive
      · rw [if_neg e] at hq; exact hq
    exact hR.inj i j c e f hi hj (live i li) (live j lj) hbj
  · rw [hpg]
    by_cases e1 : i = id
    · subst e1
      rw [hm] at hi; injection hi with hi; injection hi with e2 e3; subst e2 e3
      rw [if_pos rfl]; exact hblk.any
    · rw [if_neg e1]
      cases hli : (h.get i).live with
      | false =>
        have : h.get i = .dead := by revert hli; cases h.get i <;> simp [Blk.live]
        rw [this]; trivial
      | true =>
        exact (hR.blk i c e hi).mono (Le.refl _) fun _ => other c (hR.dom i c e hi).2 fun ec => by
          subst ec; exact e1 (hR.inj i id c e d hi hm hli hlive hb)
  · by_cases ec : c = b
    · subst ec; exact hcnt ccs tt fr hw i e hi
    · exact hR.cnt i c e ccs tt fr hi (by rw [← other c (hR.dom i c e hi).2 ec]; exact hw)
  · exact hR.glb.step rfl (fun i hi => by have hi : i < h.base := hi; rw [hpg, if_neg (by omega)]) fun _ _ => rfl
  · subst e
    have := hn id d hb hm; rw [hlive] at this; cases this
  · rw [hpg, if_neg]; intro e; subst e; rw [hm] at hn; cases hn
  · rw [hpg, if_neg (by omega)]
  · rw [hpg] at hl
    by_cases e : i = id
    · rw [e]; exact hlive
    · rw [if_neg e] at hl; exact hl
/-- a function of one object and of values that name no block, over a greater heap -/
noncomputable def ownF (g : Fun) : Fun := fun xs h k => ∃ (id t : Nat) (cs ys : List AV), xs = .ptr id 0 :: ys ∧ h.base ≤ id ∧ h.get id = .cells false t cs ∧ AV.flatL cs = true ∧ AV.flatL ys = true ∧
  g (.ptr 0 0 :: ys) (hOne (.cells false t cs)) fun r h1 => r.flat = true ∧ ∃ cs', h1.get 0 = .cells false t cs' ∧ AV.flatL cs' = true ∧ k r (putted h id (.cells false t cs'))
theorem FunOk.own {P : Program} {f : FuncId} {g : Fun} (hg : FunOk P f g) : FunOk P f (ownF g) := by
  intro xs h Q ⟨id, t, cs, ys, hxs, hb, hgi, hf, hfy, e⟩ μ w args hR ha
  subst hxs
  obtain ⟨v0, vs, hvs, h0, hys⟩ := AV.relL_cons.1 ha
  have h0' := h0
  simp only [AV.rel] at h0'
  obtain ⟨b, d, hm, rfl⟩ := h0'
  have hm0 : muOne μ id 0 = some (b, d) := by show (if (0 : Nat) = 0 then μ id else none) = _; rw [if_pos rfl]; exact hm
  have hR0 : Rel (muOne μ id) (hOne (.cells false t cs)) w := by
    have only : ∀ i c e, muOne μ id i = some (c, e) → i = 0 ∧ c = b ∧ e = d := fun i c e hi => by
      have hi : (if i = 0 then μ id else none) = some (c, e) := hi
      by_cases h0 : i = 0
      · rw [if_pos h0, hm] at hi; injection hi with hi; injection hi with e1 e2; exact ⟨h0, e1.symm, e2.symm⟩
      · rw [if_neg h0] at hi; cases hi
    refine ⟨⟨Nat.zero_le _⟩, fun i c e hi => ?_, fun i j c e f hi hj _ _ _ => ?_, fun i c e hi => ?_, fun i c e ccs tt fr hi hw => ?_, fun g _ _ hg _ => absurd hg (Nat.not_lt_zero _)⟩
    · obtain ⟨rfl, rfl, rfl⟩ := only i c e hi; exact ⟨Nat.one_pos, (hR.dom id _ _ hm).2⟩
    · rw [(only i c e hi).1, (only j c f hj).1]
    · obtain ⟨rfl, rfl, rfl⟩ := only i c e hi
      have h2 := hR.blk id _ _ hm
      rw [hgi] at h2
      rw [hOne_get]
      exact (cells_flat hf (h2.full (by rw [ble_iff]; exact hb))).any
    · obtain ⟨rfl, rfl, rfl⟩ := only i c e hi
      show ccs.size = if (0 : Nat) = 0 then μ.sz id else 0
      rw [if_pos rfl]; exact hR.cnt id _ _ ccs tt fr hm hw
  have ha0 : AV.relL (muOne μ id) (.ptr 0 0 :: ys) args.toList := by
    rw [hvs]
    refine AV.relL_cons_cons.2 ⟨?_, AV.flatL_rel ys _ hfy hys⟩
    simp only [AV.rel]; exact ⟨b, d, hm0, rfl⟩
  rcases hg _ _ _ e (muOne μ id) w args hR0 ha0 with ⟨v, w', μ1, r, h1, q1, q2, q3, q4, cs', q5, q6, q7⟩ | ⟨q1, q2⟩
  · exact .inl ⟨v, w', μ, r, _, q1, AV.flat_rel r v q4 q2, own_post hR hm hb hgi q3 q5 q6, q7⟩
  · refine .inr ⟨q1, Calls.mono q2 fun e w' ⟨v, μ1, r, h1, p1, p2, p3, p4, cs', p5, p6, p7⟩ => ?_⟩
    exact ⟨v, μ, r, _, p1, AV.flat_rel r v p4 p2, own_post hR hm hb hgi p3 p5 p6, p7⟩
end Go.Am

/- Regions that draw and only reckon: the order of the text will do. No condition. -/
namespace Go.Am
open Go
set_option linter.all false
end Go.Am

/- Calls that only read rows of the caller: a summary over a heap of those rows alone; the caller's heap is told as it was. No condition. -/
namespace Go.Am
open Go
set_option linter.all false
mutual
/-- block i named ρ i -/
def AV.ren (ρ : Nat → Nat) : AV → AV
  | .ptr id off => .ptr (ρ id) off
  | .slice id off len cap es ex => .slice (ρ id) off len cap es ex
  | .map id => .map (ρ id)
  | .yield id => .yield (ρ id)
  | .func fn f c => .func fn (AV.renL ρ f) (AV.renL ρ c)
  | .iface t v => .iface t (AV.ren ρ v)
  | .agg cs => .agg (AV.renL ρ cs)
  | .tuple cs => .tuple (AV.renL ρ cs)
  | a => a
def AV.renL (ρ : Nat → Nat) : List AV → List AV
  | [] => []
  | a :: as => AV.ren ρ a :: AV.renL ρ as
end
def lendMu (μ : Mu) (ρ : Nat → Nat) (n : Nat) : Mu := ⟨fun i => if i < n then μ (ρ i) else none, fun i => μ.sz (ρ i)⟩
theorem lendMu_lt {μ : Mu} {ρ : Nat → Nat} {n i : Nat} (h : i < n) : lendMu μ ρ n i = μ (ρ i) := if_pos h
mutual
theorem AV.rel_ren {μ : Mu} {ρ : Nat → Nat} {n : Nat} : ∀ (a : AV) (v : Value), a.under n → (a.ren ρ).rel μ v → a.rel (lendMu μ ρ n) v
  | .junk, _, _, _ => by simp [AV.rel]
  | .bool _, _, _, h => by simpa [AV.rel, AV.ren] using h
  | .int _ _, _, _, h => by simpa [AV.rel, AV.ren] using h
  | .str _, _, _, h => by simpa [AV.rel, AV.ren] using h
  | .nilp, _, _, h => by simpa [AV.rel, AV.ren] using h
  | .nils, _, _, h => by simpa [AV.rel, AV.ren] using h
  | .nilm, _, _, h => by simpa [AV.rel, AV.ren] using h
  | .nilf, _, _, h => by simpa [AV.rel, AV.ren] using h
  | .nili, _, _, h => by simpa [AV.rel, AV.ren] using h
  | .glob _ _, _, _, h => by simpa [AV.rel, AV.ren] using h
  | .ptr id off, v, hu, h => by
    simp only [AV.rel, AV.ren, AV.under] at h hu ⊢
    rw [lendMu_lt hu]; exact h
  | .slice id off len cap es ex, v, hu, h => by
    simp only [AV.rel, AV.ren, AV.under] at h hu ⊢
    rw [lendMu_lt hu]; exact h
  | .map id, v, hu, h => by
    simp only [AV.rel, AV.ren, AV.under] at h hu ⊢
    rw [lendMu_lt hu]; exact h
  | .yield id, v, hu, h => by
    simp only [AV.rel, AV.ren, AV.under] at h hu ⊢
    rw [lendMu_lt hu]; exact h
  | .func fn f c, v, hu, h => by
    simp only [AV.rel, AV.ren, AV.under] at h hu ⊢
    obtain ⟨f', c', h1, h2, h3⟩ := h
    exact ⟨f', c', h1, AV.relL_ren f _ hu.1 h2, AV.relL_ren c _ hu.2 h3⟩
  | .iface t x, v, hu, h => by
    simp only [AV.rel, AV.ren, AV.under] at h hu ⊢
    obtain ⟨y, h1, h2⟩ := h
    exact ⟨y, h1, AV.rel_ren x _ hu h2⟩
  | .agg cs, v, hu, h => by
    simp only [AV.rel, AV.ren, AV.under] at h hu ⊢
    obtain ⟨vs, h1, h2⟩ := h
    exact ⟨vs, h1, AV.relL_ren cs _ hu h2⟩
  | .tuple cs, v, hu, h => by
    simp only [AV.rel, AV.ren, AV.under] at h hu ⊢
    obtain ⟨vs, h1, h2⟩ := h
    exact ⟨vs, h1, AV.relL_ren cs _ hu h2⟩
theorem AV.relL_ren {μ : Mu} {ρ : Nat → Nat} {n : Nat} : ∀ (l : List AV) (vs : List Value), AV.underL n l → AV.relL μ (AV.renL ρ l) vs → AV.relL (lendMu μ ρ n) l vs
  | [], _, _, h => by simpa [AV.relL, AV.renL] using h
  | a :: as, vs, hu, h => by
    simp only [AV.relL, AV.renL, AV.underL] at h hu ⊢
    obtain ⟨v, vs', h1, h2, h3⟩ := h
    exact ⟨v, vs', h1, AV.rel_ren a _ hu.1 h2, AV.relL_ren as _ hu.2 h3⟩
end
/-- a small heap of rows that are read alone; row i stands in h as block ρ i -/
structure Lent (h0 h : H) (ρ : Nat → Nat) : Prop where
  full : h0.base = h0.next
  rows : ∀ i, i < h0.next → ∃ m t cs, h0.get i = .cells true t cs ∧ AV.flatL cs = true ∧ h.get (ρ i) = .cells m t cs
theorem BlkRelU.weak {μ : Mu} {w : World} {b d : Nat} {k : Blk} {u : Bool} (h : BlkRelU u μ w b d k) : BlkRelU false μ w b d k := by
  cases u with
  | false => exact h
  | true => exact BlkRel.any (u := false) h
mutual
theorem AV.ren_rel {μ : Mu} {ρ : Nat → Nat} {n : Nat} : ∀ (a : AV) (v : Value), a.under n → a.rel (lendMu μ ρ n) v → (a.ren ρ).rel μ v
  | .junk, _, _, _ => by simp [AV.rel, AV.ren]
  | .bool _, _, _, h => by simpa [AV.rel, AV.ren] using h
  | .int _ _, _, _, h => by simpa [AV.rel, AV.ren] using h
  | .str _, _, _, h => by simpa [AV.rel, AV.ren] using h
  | .nilp, _, _, h => by simpa [AV.rel, AV.ren] using h
  | .nils, _, _, h => by simpa [AV.rel, AV.ren] using h
  | .nilm, _, _, h => by simpa [AV.rel, AV.ren] using h
  | .nilf, _, _, h => by simpa [AV.rel, AV.ren] using h
  | .nili, _, _, h => by simpa [AV.rel, AV.ren] using h
  | .glob _ _, _, _, h => by simpa [AV.rel, AV.ren] using h
  | .ptr id off, v, hu, h => by
    simp only [AV.rel, AV.ren, AV.under] at h hu ⊢
    rw [lendMu_lt hu] at h; exact h
  | .slice id off len cap es ex, v, hu, h => by
    simp only [AV.rel, AV.ren, AV.under] at h hu ⊢
    rw [lendMu_lt hu] at h; exact h
  | .map id, v, hu, h => by
    simp only [AV.rel, AV.ren, AV.under] at h hu ⊢
    rw [lendMu_lt hu] at h; exact h
  | .yield id, v, hu, h => by
    simp only [AV.rel, AV.ren, AV.under] at h hu ⊢
    rw [lendMu_lt hu] at h; exact h
  | .func fn f c, v, hu, h => by
    simp only [AV.rel, AV.ren, AV.under] at h hu ⊢
    obtain ⟨f', c', h1, h2, h3⟩ := h
    exact ⟨f', c', h1, AV.renL_rel f _ hu.1 h2, AV.renL_rel c _ hu.2 h3⟩
  | .iface t x, v, hu, h => by
    simp only [AV.rel, AV.ren, AV.under] at h hu ⊢
    obtain ⟨y, h1, h2⟩ := h
    exact ⟨y, h1, AV.ren_rel x _ hu h2⟩
  | .agg cs, v, hu, h => by
    simp only [AV.rel, AV.ren, AV.under] at h hu ⊢
    obtain ⟨vs, h1, h2⟩ := h
    exact ⟨vs, h1, AV.renL_rel cs _ hu h2⟩
  | .tuple cs, v, hu, h => by
    simp only [AV.rel, AV.ren, AV.under] at h hu ⊢
    obtain ⟨vs, h1, h2⟩ := h
    exact ⟨vs, h1, AV.renL_rel cs _ hu h2⟩
theorem AV.renL_rel {μ : Mu} {ρ : Nat → Nat} {n : Nat} : ∀ (l : List AV) (vs : List Value), AV.underL n l → AV.relL (lendMu μ ρ n) l vs → AV.relL μ (AV.renL ρ l) vs
  | [], _, _, h => by simpa [AV.relL, AV.renL] using h
  | a :: as, vs, hu, h => by
    simp only [AV.relL, AV.renL, AV.underL] at h hu ⊢
    obtain ⟨v, vs', h1, h2, h3⟩ := h
    exact ⟨v, vs', h1, AV.ren_rel a _ hu.1 h2, AV.renL_rel as _ hu.2 h3⟩
end
def freshMu (μ μ1 : Mu) (n id : Nat) : Mu := ⟨fun i => if i = n then μ1 id else μ i, fun i => if i = n then μ1.sz id else μ.sz i⟩
theorem freshMu_n {μ μ1 : Mu} {n id : Nat} : freshMu μ μ1 n id n = μ1 id := if_pos rfl
theorem freshMu_ne {μ μ1 : Mu} {n id i : Nat} (h : i ≠ n) : freshMu μ μ1 n id i = μ i ∧ (freshMu μ μ1 n id).sz i = μ.sz i := ⟨if_neg h, if_neg h⟩
theorem fresh_post {μ μ1 : Mu} {h h1 : H} {w w' : World} {id t : Nat} {m : Bool} {cs : List AV} (hR : Rel μ h w) (p : Post noMu H0 w μ1 h1 w') (hg : h1.get id = .cells m t cs) (hf : AV.flatL cs = true) :
    Post μ h w (freshMu μ μ1 h.next id) (pushed h (.cells m t cs)) w' := by
  have hb : ∀ b, b < w.heap.size → w'.heap[b]? = w.heap[b]? := fun b hlt => p.frame.block b hlt fun id d _ h2 => by cases h2
  have hsz := p.frame.size
  have new : ∀ b d, μ1 id = some (b, d) → w.heap.size ≤ b := fun b d hm => by
    rcases Nat.lt_or_ge b w.heap.size with hlt | hge
    · obtain ⟨_, _, _, h2, _⟩ := p.fresh id b d (Nat.zero_le _) hm hlt (by rw [hg]; rfl)
      cases h2
    · exact hge
  have old : ∀ i b d, μ i = some (b, d) → i ≠ h.next := fun i b d hm => by have := (hR.dom i b d hm).1; omega
  have le : Le μ (freshMu μ μ1 h.next id) := fun i q hm => by
    obtain ⟨e1, e2⟩ := freshMu_ne (μ := μ) (μ1 := μ1) (id := id) (old i q.1 q.2 hm)
    exact ⟨by rw [e1]; exact hm, e2⟩
  have bs : (pushed h (.cells m t cs)).base = h.base := rfl
  have nx : (pushed h (.cells m t cs)).next = h.next + 1 := rfl
  have wf := hR.wf.low
  refine ⟨fun i hi => freshMu_ne (by omega), ⟨⟨by rw [bs, nx]; omega⟩, fun i b d hm => ?_, fun i j b d e hi hj li lj hbj => ?_, fun i b d hm => ?_, fun i b d ccs tt fr hm hw => ?_, ?_⟩, ⟨p.frame.os, p.frame.tape, p.frame.output, hsz, fun b hlt _ => hb b hlt⟩, ⟨by rw [nx]; omega, bs, fun i hi _ => ?_, fun i hi => ?_, fun i hi hl => ?_⟩, fun i b d hi hm hlt hl => ?_⟩
  · by_cases e : i = h.next
    · subst e; rw [freshMu_n] at hm
      exact ⟨by rw [nx]; omega, (p.rel.dom id b d hm).2⟩
    · rw [(freshMu_ne e).1] at hm
      have := hR.dom i b d hm
      exact ⟨by rw [nx]; omega, by omega⟩
  · by_cases e1 : i = h.next <;> by_cases e2 : j = h.next
    · rw [e1, e2]
    · subst e1; rw [freshMu_n] at hi; rw [(freshMu_ne e2).1] at hj
      have := new b d hi; have := (hR.dom j b e hj).2; omega
    · subst e2; rw [freshMu_n] at hj; rw [(freshMu_ne e1).1] at hi
      have := new b e hj; have := (hR.dom i b d hi).2; omega
    · rw [(freshMu_ne e1).1] at hi; rw [(freshMu_ne e2).1] at hj
      rw [pushed_get, if_neg e1] at li; rw [pushed_get, if_neg e2] at lj
      exact hR.inj i j b d e hi hj li lj hbj
  · by_cases e : i = h.next
    · subst e; rw [freshMu_n] at hm
      have hk := p.rel.blk id b d hm
      have b0 : h1.base = 0 := p.grows.base
      rw [hg, (by rw [b0]; rfl : Nat.ble h1.base id = true)] at hk
      rw [pushed_get, if_pos rfl]
      exact (cells_flat hf hk).any
    · rw [(freshMu_ne e).1] at hm
      rw [pushed_get, if_neg e]
      exact (hR.blk i b d hm).mono le fun _ => hb b (hR.dom i b d hm).2
  · by_cases e : i = h.next
    · subst e; rw [freshMu_n] at hm
      show ccs.size = if h.next = h.next then μ1.sz id else μ.sz h.next
      rw [if_pos rfl]; exact p.rel.cnt id b d ccs tt fr hm hw
    · rw [(freshMu_ne e).1] at hm
      rw [(freshMu_ne e).2]
      rw [hb b (hR.dom i b d hm).2] at hw
      exact hR.cnt i b d ccs tt fr hm hw
  · exact hR.glb.step bs (fun i hi => by rw [pushed_get, if_neg (by omega)]) fun i hi => (freshMu_ne (by omega)).1
  · rw [pushed_get, if_neg (by omega)]
  · rw [pushed_get, if_neg (by omega)]
  · rw [pushed_get, if_neg (by omega)] at hl; exact hl
  · by_cases e : i = h.next
    · subst e; rw [freshMu_n] at hm
      have := new b d hm; omega
    · rw [(freshMu_ne e).1] at hm
      have := (hR.dom i b d hm).1; omega
/-- what a function of values that name no block answers, with a row that it made, over a greater heap -/
noncomputable def freshF (g : Fun) : Fun := fun as h k => AV.flatL as = true ∧ g as H0 fun r h1 => (r.flat = true ∧ k r h) ∨
  ∃ (id : Nat) (m : Bool) (t : Nat) (cs : List AV) (r0 : AV), r0.under 1 ∧ r = r0.ren (fun _ => id) ∧ h1.get id = .cells m t cs ∧ AV.flatL cs = true ∧ k (r0.ren fun _ => h.next) (pushed h (.cells m t cs))
theorem FunOk.fresh {P : Program} {f : FuncId} {g : Fun} (hg : FunOk P f g) : FunOk P f (freshF g) := by
  intro as h Q ⟨hf, e⟩ μ w args hR ha
  have flat : ∀ (μ1 : Mu) (h1 : H) (w' : World) (r : AV) (v : Value), Post noMu H0 w μ1 h1 w' → r.rel μ1 v → r.flat = true → r.rel μ v ∧ Post μ h w μ h w' := fun μ1 h1 w' r v p hv hu => by
    have hb : ∀ b, b < w.heap.size → w'.heap[b]? = w.heap[b]? := fun b hlt => p.frame.block b hlt fun id d _ h2 => by cases h2
    exact ⟨AV.flat_rel r v hu hv, ⟨fun _ _ => ⟨rfl, rfl⟩, hR.same p.frame.size hb, ⟨p.frame.os, p.frame.tape, p.frame.output, p.frame.size, fun b hlt _ => hb b hlt⟩, Grows.refl μ h, fun id b d hi hm => absurd (hR.dom id b d hm).1 (by omega)⟩⟩
  have own : ∀ (μ1 : Mu) (h1 : H) (w' : World) (id : Nat) (m : Bool) (t : Nat) (cs : List AV) (r0 : AV) (v : Value), Post noMu H0 w μ1 h1 w' → (r0.ren fun _ => id).rel μ1 v → r0.under 1 → h1.get id = .cells m t cs → AV.flatL cs = true →
      (r0.ren fun _ => h.next).rel (freshMu μ μ1 h.next id) v ∧ Post μ h w (freshMu μ μ1 h.next id) (pushed h (.cells m t cs)) w' := fun μ1 h1 w' id m t cs r0 v p hv hu hg hc => by
    refine ⟨AV.ren_rel (n := 1) r0 v hu (AV.rel_down (n := 1) (μ' := lendMu μ1 (fun _ => id) 1) (fun i hi => ⟨?_, ?_⟩) r0 v hu (AV.rel_ren (n := 1) r0 v hu hv)), fresh_post hR p hg hc⟩
    · rw [lendMu_lt hi, lendMu_lt hi, freshMu_n]
    · show μ1.sz id = if h.next = h.next then μ1.sz id else μ.sz h.next
      rw [if_pos rfl]
  rcases hg as H0 _ e noMu w args (rel0 w) (AV.flatL_rel as _ hf ha) with ⟨v, w', μ1, r, h1, q1, q2, q3, q4⟩ | ⟨q1, q2⟩
  · rcases q4 with ⟨q4, q5⟩ | ⟨id, m, t, cs, r0, hu, rfl, hg, hc, q5⟩
    · obtain ⟨r1, r2⟩ := flat μ1 h1 w' r v q3 q2 q4
      exact .inl ⟨v, w', μ, r, h, q1, r1, r2, q5⟩
    · obtain ⟨r1, r2⟩ := own μ1 h1 w' id m t cs r0 v q3 q2 hu hg hc
      exact .inl ⟨v, w', _, _, _, q1, r1, r2, q5⟩
  · refine .inr ⟨q1, Calls.mono q2 fun e w' ⟨v, μ1, r, h1, p1, p2, p3, p4⟩ => ?_⟩
    rcases p4 with ⟨p4, p5⟩ | ⟨id, m, t, cs, r0, hu, rfl, hg, hc, p5⟩
    · obtain ⟨r1, r2⟩ := flat μ1 h1 w' r v p3 p2 p4
      exact ⟨v, μ, r, h, p1, r1, r2, p5⟩
    · obtain ⟨r1, r2⟩ := own μ1 h1 w' id m t cs r0 v p3 p2 hu hg hc
      exact ⟨v, _, _, _, p1, r1, r2, p5⟩
end Go.Am

/- A range over a map whose rounds put its entries into another map: whatever the order. No condition. -/
namespace Go.Am
open Go
set_option linter.all false
theorem insC_cons (p q : AV × AV) (r : List (AV × AV)) : insC p (q :: r) = if keyLt p.1 q.1 = true then p :: q :: r else q :: insC p r := by
  rw [insC]; cases keyLt p.1 q.1 <;> rfl
/-- heap h: as hB, but that map m is shown as es, r is an iterator, and map f holds acc -/
structure Ins (m r f : Nat) (es0 : List (AV × AV)) (es : List (AV × AV × Nat)) (clock : Nat) (seen : List Nat) (acc : List (AV × AV)) (hB h : H) : Prop where
  mp : h.get m = .amap es clock
  it : h.get r = .miter (some m) clock seen clock
  fp : h.get f = .smap acc
  shown : Shown es0 es clock
  same : ∀ id, id ≠ m → id ≠ r → id ≠ f → h.get id = hB.get id
  base : h.base = hB.base
  next : h.next = r + 1
end Go.Am
