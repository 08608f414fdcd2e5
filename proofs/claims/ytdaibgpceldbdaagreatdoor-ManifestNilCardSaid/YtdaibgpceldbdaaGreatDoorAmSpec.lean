/- Each operation, plainly: what the runs are held against. -/
import Derived.Test.YtdaibgpceldbdaaGreatDoorAmPrim
namespace Go.Am
open Go

/-- what a call of a function comes to: it asks of its continuation -/
abbrev Fun := List AV → H → (AV → H → Prop) → Prop
/-- a deferred call: of a range's block; of a function -/
inductive Dfr where
  | coll (id : Nat)
  | call (f : Nat) (args captured : List AV)
/-- how a piece of code goes on -/
structure Ks where
  norm : List AV → List Dfr → H → Prop
  exit : Nat → List AV → List Dfr → H → Prop
  ret : List AV → List Dfr → H → Prop
noncomputable def loopN {α : Type} (body : (α → List Dfr → H → Prop) → α → List Dfr → H → Prop) (n : Nat) : α → List Dfr → H → Prop :=
  Nat.rec (motive := fun _ => α → List Dfr → H → Prop) (fun _ _ _ => False) (fun _ self => body self) n
/-- how many rounds a loop is followed at most -/
def fuel : Nat := 1099511627776
/-- ways that meet again; loops -/
structure Joins where
  jn : (AV → H → Prop) → ((AV → H → Prop) → Prop) → Prop
  jb : (Bool → AV → Prop) → ((Bool → AV → Prop) → Prop) → Prop
  jd : {α : Type} → (α → List Dfr → H → Prop) → ((α → List Dfr → H → Prop) → Prop) → Prop
  lp : {α : Type} → ((α → List Dfr → H → Prop) → α → List Dfr → H → Prop) → α → List Dfr → H → Prop
  jn_ok : ∀ j b, jn j b = b j
  jb_ok : ∀ j b, jb j b = b j
  jd_ok : ∀ (α : Type) (j : α → List Dfr → H → Prop) b, jd j b = b j
  lp_ok : ∀ (α : Type) (b : (α → List Dfr → H → Prop) → α → List Dfr → H → Prop) v ds h, lp b v ds h = loopN b fuel v ds h
noncomputable def J0 : Joins := ⟨fun j b => b j, fun j b => b j, fun j b => b j, fun b => loopN b fuel, fun _ _ => rfl, fun _ _ => rfl, fun _ _ _ => rfl, fun _ _ _ _ _ => rfl⟩
/-- what calls come to: of functions, of functions that are ranged over, of functions that are deferred, of the code of rounds; J: ways that meet again (plain applications, held apart while functions are compared) -/
structure Gam where
  J : Joins
  fn : Nat → Fun
  it : Nat → Fun
  dfn : Nat → Fun
  code : Code → Ks → List AV → List Dfr → H → Prop

noncomputable def ev (env : List AV) : Operand → AV
  | .tmp t => lget .junk env t
  | .const v => ofVal v
  | .global _ => .junk
  | .func f => .func (.func f) [] []

/-! ## one operation -/
noncomputable def aConv (T : Ty) (s d : Nat) (v : AV) : Option AV :=
  match (T d).kd with
  | .int k => match (T s).kd.known with
    | true => aInt k v
    | false => none
  | .str => match (T s).kd, v with
    | .str, .str x => some (.str x)
    | _, _ => none
  | _ => none
def fieldOf (T : Ty) (t f : Nat) : Option (Nat × Nat) :=
  match (T t).kd with
  | .struct fs => match fs[f]? with
    | some (off, ft) => match (T ft).kd.known && Nat.ble 1 (T ft).size with
      | true => some (off, ft)
      | false => none
    | none => none
  | _ => none
noncomputable def opP (T : Ty) (o : Op) (ρ : Operand → AV) : Option AV :=
  match o with
  | .move x => some (ρ x)
  | .assign x => some (ρ x)
  | .pick c a b => aPick (ρ c) (ρ a) (ρ b)
  | .nilCheck x => aNilCheck (ρ x)
  | .binOp op t x y _ => aBin T op t (isCon x || isCon y) (ρ x) (ρ y)
  | .unOp op _ x => aUn op (ρ x)
  | .convert s d x => aConv T s d (ρ x)
  | .makeFunc fn a b => some (.func fn (a.toList.map ρ) (b.toList.map ρ))
  | .makeInterface t x => match (T t).kd with
    | .iface => none
    | .other => none
    | _ => some (.iface t (ρ x))
  | .fieldAddr t x f => match fieldOf T t f with
    | some (off, _) => aFieldAddr off (ρ x)
    | none => none
  | .field t x f => match fieldOf T t f with
    | some (off, ft) => aField (T ft).kd.agg (T ft).size off (ρ x)
    | none => none
  | .indexAddr t x i => match (T t).kd with
    | .slice e => match (T e).kd.known with
      | true => aIndexAddr (T e).size (ρ x) (ρ i)
      | false => none
    | .arr n e => match (T e).kd.known with
      | true => aIndexArrAddr n (T e).size (ρ x) (ρ i)
      | false => none
    | _ => none
  | .index t x i => match (T t).kd with
    | .str => aIndexStr (ρ x) (ρ i)
    | .arr n e => match (T e).kd.known with
      | true => aIndexArr n (T e).kd.agg (T e).size (ρ x) (ρ i)
      | false => none
    | _ => none
  | .slice t x lo hi none => match (T t).kd with
    | .str => aSliceStr (ρ x) (lo.map ρ) (hi.map ρ)
    | .slice e => match (T e).kd.known with
      | true => aSliceSl (T e).size (ρ x) (lo.map ρ) (hi.map ρ) none
      | false => none
    | _ => none
  | .extract x i => aExtract i (ρ x)
  | .build t ps => match (T t).kd with
    | .struct fs => match fs.all (fun p => (T p.2).kd.known) with
      | true => match sParts T fs (ps.toList.map fun p => (p.1, ρ p.2)) with
        | some l => aBuild (T t).zero l
        | none => none
      | false => none
    | .arr _ e => match (T e).kd.known with
      | true => aBuild (T t).zero (rParts (T e).size (ps.toList.map fun p => (p.1, ρ p.2)))
      | false => none
    | _ => none
  | .typeAssert x _ a ok => aAssert T a ok (ρ x)
  | .slice t x lo hi (some m) => match (T t).kd with
    | .slice e => match (T e).kd.known with
      | true => aSlice3 (T e).size (ρ x) (lo.map ρ) (hi.map ρ) (ρ m)
      | false => none
    | _ => none
  | .call { callee := .builtin .len, args, argTypes } => match args.toList, argTypes.toList with
    | [x], [t] => match (T t).kd with
      | .str => aLenStr (ρ x)
      | .slice _ => aLenSl (ρ x)
      | _ => none
    | _, _ => none
  | .call { callee := .builtin b, args, argTypes } => aBiP T b (args.toList.map ρ) argTypes.toList
  | _ => none
noncomputable def opR (T : Ty) (o : Op) (ρ : Operand → AV) (h : H) : Option AV :=
  match o with
  | .load t a => match (T t).kd.known with
    | true => match (T t).kd.agg with
      | true => aLoadN (T t).size (ρ a) h
      | false => aLoad1 (ρ a) h
    | false => none
  | .convert s d x => match (T s).kd, (T d).kd with
    | .slice e, .str => match (T e).kd.isU8 with
      | true => aToStr (ρ x) h
      | false => none
    | .ptr e, .unsafe_ => match (T e).kd.known && Nat.ble 1 (T e).size with
      | true => aToU (ρ x) h
      | false => none
    | .unsafe_, .ptr e => match (T e).kd.known && Nat.ble 1 (T e).size with
      | true => aOfU e (T e).size (ρ x) h
      | false => none
    | _, _ => none
  | .lookup t x i ok => match (T t).kd with
    | .map k e => aLookup T k e ok (ρ x) (ρ i) h
    | _ => none
  | .entry it => aEntry (ρ it) h
  | .call { callee := .builtin .len, args, argTypes } => match args.toList, argTypes.toList with
    | [x], [t] => match (T t).kd with
      | .map _ _ => aLenMap (ρ x) h
      | _ => none
    | _, _ => none
  | _ => none
def rowOk (T : Ty) (e : Nat) : Bool := (T e).kd.known && Nat.ble 1 (T e).size && Nat.beq (T e).zero.length (T e).size && Nat.ble 1 (T e).bytes
noncomputable def opA (T : Ty) (o : Op) (ρ : Operand → AV) : Option (Blk × (Nat → AV)) :=
  match o with
  | .alloc e => match (T e).kd.known with
    | true => aAlloc e (T e).zero
    | false => none
  | .box e x => aBox e (ρ x)
  | .buildSlice t n ps => match (T t).kd with
    | .slice e => match rowOk T e && Nat.ble 0 n && Nat.ble (Nat.mul n (T e).size) 16777216 with
      | true => aBuildSlice (T e).size (T e).kd.isU8 e (T e).zero n (rParts (T e).size (ps.toList.map fun p => (p.1, ρ p.2)))
      | false => none
    | _ => none
  | .convert s d x => match (T s).kd, (T d).kd with
    | .str, .slice e => match (T e).kd.isU8 with
      | true => aStrBytes e (ρ x)
      | false => none
    | _, _ => none
  | .makeSlice t l c => match (T t).kd with
    | .slice e => match rowOk T e with
      | true => aMakeSl T e (ρ l) (ρ c)
      | false => none
    | _ => none
  | _ => none
def strOrSlice : Kd → Bool
  | .str => true
  | .slice _ => true
  | _ => false
noncomputable def op2 (o : Option (AV × H)) (k : AV → H → Prop) : Prop :=
  match o with
  | some (v, h') => k v h'
  | none => False
noncomputable def op1 (o : Option H) (k : AV → H → Prop) : Prop :=
  match o with
  | some h' => k .junk h'
  | none => False
/-- the record of a range over a function is turned -/
noncomputable def setLoop (id : Nat) (st : LoopState) (pend : Option Code) (h : H) (k : H → Prop) : Prop :=
  match h.get id with
  | .loop _ _ ps a b e => putK id (.loop st pend ps a b e) h k
  | _ => False
noncomputable def putL : List Nat → List AV → List AV → List AV
  | p :: ps, a :: as, env => putL ps as (lset env p a)
  | _, _, env => env
/-- a call of 'yield' -/
noncomputable def yieldK (G : Gam) (id : Nat) (args : List AV) (h : H) (k : AV → H → Prop) : Prop :=
  match h.get id with
  | .loop _ _ ps a b env => match Nat.beq args.length ps.length with
    | true => G.code a
        ⟨fun e1 d1 h1 => match h1.get id with
          | .loop .ready pend _ _ _ _ => setLoop id .busy pend h1 fun h2 => G.code b
            ⟨fun _ _ h3 => setLoop id .ready none h3 (k (.bool true)), fun i _ _ h3 => setLoop id .done (some (.exit i)) h3 (k (.bool false)), fun _ _ h3 => setLoop id .done (some .ret) h3 (k (.bool false))⟩ e1 d1 h2
          | _ => False, fun _ _ _ _ => False, fun _ _ _ => False⟩ (putL ps args env) [] h
    | false => False
  | _ => False
/-- bytes are marked as made of a text -/
noncomputable def aMark (v : AV) (h : H) : Option (Nat × Blk) :=
  match v with
  | .slice id _ _ _ _ _ => match h.get id with
    | .bytes t 0 false s => some (id, .bytes t 0 true s)
    | _ => none
  | _ => none
noncomputable def markK (same : Bool) (s d : Kd) (kd : Nat → Kd) (x : AV) (h : H) (k : AV → H → Prop) : Prop :=
  match same, s, d with
  | true, .slice e, .slice _ => match (kd e).isU8 with
    | true => match aMark x h with
      | some p => match h.put p.1 p.2 with
        | some h' => k x h'
        | none => False
      | none => False
    | false => False
  | _, _, _ => False
noncomputable def opW (T : Ty) (G : Gam) (o : Op) (ρ : Operand → AV) (h : H) (k : AV → H → Prop) : Prop :=
  match o with
  | .store t a x => match (T t).kd.known && Nat.ble 0 (T t).size with
    | true => op1 (aStore (T t).size (ρ a) (ρ x) h) k
    | false => False
  | .mapUpdate t m i v => match (T t).kd with
    | .map kt _ => op1 (aMapPut T kt (ρ m) (ρ i) (ρ v) h) k
    | _ => False
  | .makeMap _ none => op2 (aMakeMap h) k
  | .range t x => match (T t).kd with
    | .map _ _ => aRangeK (ρ x) h k
    | _ => False
  | .next i false => aNext (ρ i) h k
  | .call { callee := .builtin .append, args, argTypes } => match args.toList, argTypes.toList with
    | [s, x], [t, t2] => match (T t).kd with
      | .slice e => match rowOk T e && strOrSlice (T t2).kd with
        | true => match (T e).kd.isU8 && Nat.beq (T e).size 1 && Nat.beq (T e).bytes 1 with
          | true => op2 (aAppendB e (ρ s) (ρ x) h) k
          | false => op2 (aAppendC e (T e).size (T e).bytes (ρ s) (ρ x) h) k
        | false => False
      | _ => False
    | _, _ => False
  | .call { callee := .builtin .delete, args, argTypes } => match args.toList, argTypes.toList with
    | [m, i], [t, _] => match (T t).kd with
      | .map kt _ => match aMapDel T kt (ρ m) (ρ i) h with
        | some h' => k (.tuple []) h'
        | none => False
      | _ => False
    | _, _ => False
  | .call { callee := .builtin b, args, argTypes } => op2 (aBiW T b (args.toList.map ρ) argTypes.toList h) k
  | .call { callee := .value f, args, .. } => match ρ f with
    | .func (.func g) first captured => G.fn g (first ++ (args.toList.map ρ ++ captured)) h k
    | .yield id => yieldK G id (args.toList.map ρ) h k
    | _ => False
  | .convert s d x => markK (Nat.beq s d) (T s).kd (T d).kd (fun e => (T e).kd) (ρ x) h k
  | _ => False
/-- which of the four an operation is: 0 it only reckons, 1 it reads, 2 it makes a block, 3 it writes or calls -/
def opC (T : Ty) (o : Op) : Nat :=
  match o with
  | .load .. => 1
  | .convert s d _ => match (T s).kd, (T d).kd with
    | .slice _, .str => 1
    | .ptr _, .unsafe_ => 1
    | .unsafe_, .ptr _ => 1
    | .str, .slice _ => 2
    | .slice _, .slice _ => 3
    | _, _ => 0
  | .alloc _ => 2
  | .box .. => 2
  | .makeSlice .. => 2
  | .lookup .. => 1
  | .entry _ => 1
  | .mapUpdate .. => 3
  | .makeMap .. => 3
  | .range .. => 3
  | .next .. => 3
  | .call { callee := .builtin .len, argTypes, .. } => match argTypes.toList with
    | [t] => match (T t).kd with
      | .map _ _ => 1
      | _ => 0
    | _ => 0
  | .buildSlice .. => 2
  | .store .. => 3
  | .call { callee := .builtin b, .. } => biC b
  | .call _ => 3
  | _ => 0
/-- one operation, plainly -/
noncomputable def opX (T : Ty) (G : Gam) (o : Op) (ρ : Operand → AV) (h : H) (k : AV → H → Prop) : Prop :=
  match opC T o with
  | 0 => match opP T o ρ with
    | some v => k v h
    | none => False
  | 1 => match opR T o ρ h with
    | some v => k v h
    | none => False
  | 2 => op2 (aNew (opA T o ρ) h) k
  | _ => opW T G o ρ h k
end Go.Am
