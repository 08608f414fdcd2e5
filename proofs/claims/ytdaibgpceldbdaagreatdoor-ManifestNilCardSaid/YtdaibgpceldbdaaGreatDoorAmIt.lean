/- Ranges over functions, as they are printed. -/
import Derived.Test.YtdaibgpceldbdaaGreatDoorAmRange
namespace Go.Am
open Go
/-- the codes of the ranges over functions in a piece of code -/
def rfCodes : Code → List (Code × Code)
  | .seq a b => rfCodes a ++ rfCodes b
  | .cond _ a b => rfCodes a ++ rfCodes b
  | .block _ b => rfCodes b
  | .loop b => rfCodes b
  | .scope b => rfCodes b
  | .rangeFunc _ _ a b => [(a, b)]
  | _ => []
def rfAt (f : Func) (i : Nat) : Code × Code :=
  match f.body with
  | some c => (rfCodes c).getD i (.skip, .skip)
  | none => (.skip, .skip)
noncomputable def rfK (G : Gam) (v : AV) (ps : List Nat) (c : Code × Code) (env : List AV) (h : H) (k : Nat → Nat → H → Prop) : Prop :=
  match v with
  | .func (.func f) first captured => pushK (.defd true) h fun id0 h => pushK (.loop .ready none ps c.1 c.2 env) h fun id1 h => G.it f (first ++ (.yield id1 :: captured)) h fun _ h => k id0 id1 h
  | _ => False
noncomputable def endR (id0 id1 : Nat) (norm ret : List Dfr → H → Prop) (ex : Nat → List Dfr → H → Prop) (ds : List Dfr) (h : H) : Prop :=
  match h.get id1 with
  | .loop .busy _ _ _ _ _ => False
  | .loop _ pend _ _ _ _ => setLoop id1 .exhausted pend h fun h' => match pend with
    | none => norm (.coll id0 :: ds) h'
    | some .ret => ret (.coll id0 :: ds) h'
    | some (.exit i) => ex i (.coll id0 :: ds) h'
    | _ => False
  | _ => False
noncomputable def exB (c : Bool) (p q : List Dfr → H → Prop) : List Dfr → H → Prop :=
  match c with
  | true => p
  | false => q
noncomputable def markF (x : AV) (h : H) (k : AV → H → Prop) : Prop :=
  match aMark x h with
  | some p => match h.put p.1 p.2 with
    | some h' => k x h'
    | none => False
  | none => False
end Go.Am
