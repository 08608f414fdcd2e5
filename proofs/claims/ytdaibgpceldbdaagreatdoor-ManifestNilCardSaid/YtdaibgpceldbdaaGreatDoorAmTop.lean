/- From the functional semantics to a row: whatever the input, the law returns true, and the input reads as it did. -/
import Derived.Test.YtdaibgpceldbdaaGreatDoorAmGam
import Derived.ProofKit
namespace Go.Am
open Go Go.ChangeShapes Go.RowKit

theorem law_calls {P : Program} {f : FuncId} {g : Fun} (hok : FunOk P f g) (henter : ∀ args w, (callFunc f args).run P w = .ok (.enter f args) w) {as : List AV} {h : H} {Q : AV → H → Prop} (hg : g as h Q)
    {μ : Mu} {W : World} {args : Array Value} (hR : Rel μ h W) (ha : AV.relL μ as args.toList) : CallsTo P μ h W f args Q := by
  rcases hok as h Q hg μ W args hR ha with ⟨v, w', μ', r, h', q1, _⟩ | ⟨_, q⟩
  · rw [henter] at q1; cases q1
  · exact q
/-- the empty heap -/
def H0 : H := ⟨.lf, 0, 0⟩
theorem rel0 (W : World) : Rel noMu H0 W :=
  ⟨⟨Nat.le_refl _⟩, fun _ _ _ h => (by cases h), fun _ _ _ _ _ h => (by cases h), fun _ _ _ h => (by cases h), fun _ _ _ _ _ _ h => (by cases h)⟩
theorem below_of_post {μ μ' : Mu} {h h' : H} {W W' : World} (hp : Post μ h W μ' h' W') (hb : ∀ id b d, h.base ≤ id → μ id = some (b, d) → (h.get id).live = false) : Below W.heap.size W W' :=
  ⟨hp.frame.os, hp.frame.tape, hp.frame.output, hp.frame.size, fun k hk => hp.frame.block k hk fun id d h1 h2 => hb id k d h1 h2⟩
def isT (r : AV) (_ : H) : Prop := r = .bool true
/-- a law over a heap of which nothing may be written -/
theorem law {P : Program} {f : FuncId} {g : Fun} (hok : FunOk P f g) (henter : ∀ args w, (callFunc f args).run P w = .ok (.enter f args) w) {as : List AV} {h : H} (hg : g as h isT) {μ : Mu} (hb : ∀ id b d, h.base ≤ id → μ id = some (b, d) → (h.get id).live = false)
    {W : World} {args : Array Value} (hR : Rel μ h W) (ha : AV.relL μ as args.toList) : Calls P f args W fun e W' => e = .returned (.bool true) ∧ Below W.heap.size W W' :=
  Calls.mono (law_calls hok henter hg hR ha) fun e W' he => by
    obtain ⟨v, μ', r, h', rfl, hv, hp, hr⟩ := he
    have hr : r = .bool true := hr
    subst hr
    simp only [AV.rel] at hv; subst hv
    exact ⟨rfl, below_of_post hp hb⟩
/-- a law without a heap of its own -/
theorem law0 {P : Program} {f : FuncId} {g : Fun} (hok : FunOk P f g) (henter : ∀ args w, (callFunc f args).run P w = .ok (.enter f args) w) {as : List AV} (hg : g as H0 isT)
    {W : World} {args : Array Value} (ha : AV.relL noMu as args.toList) : Calls P f args W fun e W' => e = .returned (.bool true) ∧ Below W.heap.size W W' :=
  law hok henter hg (fun _ _ _ _ h => by cases h) (rel0 W) ha

section
variable {H : Type} {enc : TypeId × Value → H} {P : Program}
theorem trodAll_below (hl : laidOutB P = true) {W W' : World} (hb : Below W.heap.size W W') : ∀ {ts : List TypeId} {vs : List Value} {ds : List (DataW H)} {ps : List MemPlace}, (∀ t ∈ ts, P.readableRec t = true ∧ t < P.types.size) →
    DataW.TrodAll enc P W 0 (fun _ => true) true ts vs ds ps → (∀ x ∈ ps, x.block < W.heap.size) → DataW.TrodAll enc P W' 0 (fun b => decide (b < W.heap.size)) true ts vs ds ps
  | [], _, _, _, _, h, _ => by obtain ⟨rfl, rfl, rfl⟩ := trodAll_nil h; rfl
  | t :: ts, _, _, _, ht, h, hlt => by
    obtain ⟨v, vs1, d, ds1, a, b, rfl, rfl, rfl, h1, h2⟩ := trodAll_cons h
    exact ⟨a, b, Below.trod hl (ht t (by simp)).1 (ht t (by simp)).2 h1 hb (fun x hx => hlt x (by simp [hx])), trodAll_below hl hb (fun t h => ht t (by simp [h])) h2 (fun x hx => hlt x (by simp [hx])), rfl⟩
theorem post_of_below {f : Func} {s : ChangeSpec} {W W' : World} {args : Array Value} {v : Value} {ds gs : List (DataW H)} {before : List MemPlace} {fresh handsOn : Bool} (hv : s.vars = []) (hl : laidOutB P = true) (hpar : ∀ t ∈ f.params.toList, P.readableRec t = true ∧ t < P.types.size)
    (hW : DataW.Whole enc P f.params.toList s.vars false W args.toList ds gs before) (hb : Below W.heap.size W W') (ha : (s.fn H (ds ++ gs)).args = ds) (hvs : (s.fn H (ds ++ gs)).vars = [])
    (hres : ∀ (b : Nat) (sp : Nat → Bool) (hd : Bool), DataW.TrodAll enc P W' b sp hd f.resultTypes.toList (v.resultList f.resultTypes.size) (s.fn H (ds ++ gs)).results []) : s.post enc P f false fresh handsOn false W args v W' := by
  have hW' := hW
  have hlt := hW.lt
  obtain ⟨p, q, hA, hV, rfl, hz, hn⟩ := hW
  rw [hv] at hV
  obtain ⟨rfl, rfl⟩ := trodVars_none hV
  refine ⟨ds, [], p ++ [], [], p, [], hW', hres _ _ _, ?_, ?_, hb.frame _, fun h => by cases h⟩
  · rw [ha]; exact trodAll_below hl hb hpar hA (fun x hx => hlt x (by simp [hx]))
  · rw [hv, hvs]; rfl
theorem bool_res {W' : World} {f : Func} {t : TypeId} (hr : f.resultTypes = #[t]) (ht : P.underlying t = some .bool) (b : Bool) (k : Nat) (sp : Nat → Bool) (hd : Bool) :
    DataW.TrodAll enc P W' k sp hd f.resultTypes.toList ((Value.bool b).resultList f.resultTypes.size) [.lit (.bool b)] [] := by
  rw [hr]
  exact trodAll_mk1 ⟨1, by simp [DataW.trod, Value.cells, ht]⟩
end
end Go.Am
