/- The functional semantics of code. -/
import Derived.Test.YtlbigopkplckaaaAmOpU
namespace Go.Am
open Go

/-- what a call of a function comes to -/
abbrev Fun := List AV → H → Option (AV × H)
abbrev Gam := Nat → Fun

noncomputable def ev (env : List AV) : Operand → AV
  | .tmp t => lget .junk env t
  | .const v => ofVal v
  | .global _ => .junk
  | .func f => .func (.func f) [] []

/-! ## one operation -/
noncomputable def aConv (T : Ty) (s d : Nat) (v : AV) : Option AV :=
  match (T d).kd with
  | .int k => match (T s).kd.known with
    | true => aInt k v
    | false => none
  | .str => match (T s).kd, v with
    | .str, .str x => some (.str x)
    | _, _ => none
  | _ => none
def fieldOf (T : Ty) (t f : Nat) : Option (Nat × Nat) :=
  match (T t).kd with
  | .struct fs => match fs[f]? with
    | some (off, ft) => match (T ft).kd.known && Nat.ble 1 (T ft).size with
      | true => some (off, ft)
      | false => none
    | none => none
  | _ => none
noncomputable def opP (T : Ty) (o : Op) (ρ : Operand → AV) : Option AV :=
  match o with
  | .move x => some (ρ x)
  | .assign x => some (ρ x)
  | .pick c a b => aPick (ρ c) (ρ a) (ρ b)
  | .nilCheck x => aNilCheck (ρ x)
  | .binOp op t x y _ => aBin T op t (isCon x || isCon y) (ρ x) (ρ y)
  | .unOp op _ x => aUn op (ρ x)
  | .convert s d x => aConv T s d (ρ x)
  | .makeFunc fn a b => some (.func fn (a.toList.map ρ) (b.toList.map ρ))
  | .makeInterface t x => match (T t).kd with
    | .iface => none
    | .other => none
    | _ => some (.iface t (ρ x))
  | .fieldAddr t x f => match fieldOf T t f with
    | some (off, _) => aFieldAddr off (ρ x)
    | none => none
  | .field t x f => match fieldOf T t f with
    | some (off, ft) => aField (T ft).kd.agg (T ft).size off (ρ x)
    | none => none
  | .indexAddr t x i => match (T t).kd with
    | .slice e => match (T e).kd.known with
      | true => aIndexAddr (T e).size (ρ x) (ρ i)
      | false => none
    | .arr n e => match (T e).kd.known with
      | true => aIndexArrAddr n (T e).size (ρ x) (ρ i)
      | false => none
    | _ => none
  | .index t x i => match (T t).kd with
    | .str => aIndexStr (ρ x) (ρ i)
    | .arr n e => match (T e).kd.known with
      | true => aIndexArr n (T e).kd.agg (T e).size (ρ x) (ρ i)
      | false => none
    | _ => none
  | .slice t x lo hi none => match (T t).kd with
    | .str => aSliceStr (ρ x) (lo.map ρ) (hi.map ρ)
    | .slice e => match (T e).kd.known with
      | true => aSliceSl (T e).size (ρ x) (lo.map ρ) (hi.map ρ) none
      | false => none
    | _ => none
  | .extract x i => aExtract i (ρ x)
  | .build t ps => match (T t).kd with
    | .struct fs => match fs.all (fun p => (T p.2).kd.known) with
      | true => match sParts T fs (ps.toList.map fun p => (p.1, ρ p.2)) with
        | some l => aBuild (T t).zero l
        | none => none
      | false => none
    | .arr _ e => match (T e).kd.known with
      | true => aBuild (T t).zero (rParts (T e).size (ps.toList.map fun p => (p.1, ρ p.2)))
      | false => none
    | _ => none
  | .call { callee := .builtin .len, args, argTypes } => match args.toList, argTypes.toList with
    | [x], [t] => match (T t).kd with
      | .str => aLenStr (ρ x)
      | .slice _ => aLenSl (ρ x)
      | _ => none
    | _, _ => none
  | .call { callee := .builtin b, args, argTypes } => aBiP T b (args.toList.map ρ) argTypes.toList
  | _ => none
noncomputable def opR (T : Ty) (o : Op) (ρ : Operand → AV) (h : H) : Option AV :=
  match o with
  | .load t a => match (T t).kd.known with
    | true => match (T t).kd.agg with
      | true => aLoadN (T t).size (ρ a) h
      | false => aLoad1 (ρ a) h
    | false => none
  | .convert s d x => match (T s).kd, (T d).kd with
    | .slice e, .str => match (T e).kd.isU8 with
      | true => aToStr (ρ x) h
      | false => none
    | .ptr e, .unsafe_ => match (T e).kd.known && Nat.ble 1 (T e).size with
      | true => aToU (ρ x) h
      | false => none
    | .unsafe_, .ptr e => match (T e).kd.known && Nat.ble 1 (T e).size with
      | true => aOfU e (T e).size (ρ x) h
      | false => none
    | _, _ => none
  | _ => none
def rowOk (T : Ty) (e : Nat) : Bool := (T e).kd.known && Nat.ble 1 (T e).size && Nat.beq (T e).zero.length (T e).size && Nat.ble 1 (T e).bytes
noncomputable def opA (T : Ty) (o : Op) (ρ : Operand → AV) : Option (Blk × (Nat → AV)) :=
  match o with
  | .alloc e => match (T e).kd.known with
    | true => aAlloc e (T e).zero
    | false => none
  | .box e x => aBox e (ρ x)
  | .buildSlice t n ps => match (T t).kd with
    | .slice e => match rowOk T e && Nat.ble 1 n && Nat.ble (Nat.mul n (T e).size) 16777216 with
      | true => aBuildSlice (T e).size (T e).kd.isU8 e (T e).zero n (rParts (T e).size (ps.toList.map fun p => (p.1, ρ p.2)))
      | false => none
    | _ => none
  | .convert s d x => match (T s).kd, (T d).kd with
    | .str, .slice e => match (T e).kd.isU8 with
      | true => aStrBytes e (ρ x)
      | false => none
    | _, _ => none
  | _ => none
def strOrSlice : Kd → Bool
  | .str => true
  | .slice _ => true
  | _ => false
noncomputable def opW (T : Ty) (G : Gam) (o : Op) (ρ : Operand → AV) (h : H) : Option (AV × H) :=
  match o with
  | .store t a x => match (T t).kd.known && Nat.ble 1 (T t).size with
    | true => match aStore (T t).size (ρ a) (ρ x) h with
      | some h' => some (.junk, h')
      | none => none
    | false => none
  | .call { callee := .builtin .append, args, argTypes } => match args.toList, argTypes.toList with
    | [s, x], [t, t2] => match (T t).kd with
      | .slice e => match rowOk T e && strOrSlice (T t2).kd with
        | true => match (T e).kd.isU8 && Nat.beq (T e).size 1 && Nat.beq (T e).bytes 1 with
          | true => aAppendB e (ρ s) (ρ x) h
          | false => aAppendC e (T e).size (T e).bytes (ρ s) (ρ x) h
        | false => none
      | _ => none
    | _, _ => none
  | .call { callee := .builtin b, args, argTypes } => aBiW T b (args.toList.map ρ) argTypes.toList h
  | .call { callee := .value f, args, .. } => match ρ f with
    | .func (.func g) first captured => G g (first ++ (args.toList.map ρ ++ captured)) h
    | _ => none
  | _ => none
/-- which of the four an operation is: 0 it only reckons, 1 it reads, 2 it makes a block, 3 it writes or calls -/
def opC (T : Ty) (o : Op) : Nat :=
  match o with
  | .load .. => 1
  | .convert s d _ => match (T s).kd, (T d).kd with
    | .slice _, .str => 1
    | .ptr _, .unsafe_ => 1
    | .unsafe_, .ptr _ => 1
    | .str, .slice _ => 2
    | _, _ => 0
  | .alloc _ => 2
  | .box .. => 2
  | .buildSlice .. => 2
  | .store .. => 3
  | .call { callee := .builtin b, .. } => biC b
  | .call _ => 3
  | _ => 0
noncomputable def opX (T : Ty) (G : Gam) (o : Op) (ρ : Operand → AV) (h : H) : Option (AV × H) :=
  match opC T o with
  | 0 => match opP T o ρ with
    | some v => some (v, h)
    | none => none
  | 1 => match opR T o ρ h with
    | some v => some (v, h)
    | none => none
  | 2 => aNew (opA T o ρ) h
  | _ => opW T G o ρ h

/-! ## a region -/
noncomputable def put (dst : Option Nat) (v : AV) (env : List AV) : List AV :=
  match dst with
  | some d => lset env d v
  | none => env
/-- is the operation wanted? none: it can't be told -/
noncomputable def guarded (ops : List Oper) (o : Oper) (env : List AV) : Option Bool :=
  match o.guard with
  | none => some true
  | some (j, want) => match ops[j]? with
    | some oj => match oj.dst with
      | some d => match lget .junk env d with
        | .bool b => some (Bool.rec (Bool.not want) want b)
        | _ => none
      | none => none
    | none => none
/-- one operation of a region -/
noncomputable def stepO (T : Ty) (G : Gam) (ops : List Oper) (o : Oper) (env : List AV) (h : H) : Option (List AV × H) :=
  match guarded ops o env with
  | some true => match opX T G o.op (ev env) h with
    | some (v, h') => some (put o.dst v env, h')
    | none => none
  | some false => some (put o.dst .junk env, h)
  | none => none
/-- in the order of the text -/
noncomputable def runSeq (T : Ty) (G : Gam) (all : List Oper) : List Oper → List AV → H → (List AV → H → Option (AV × H)) → Option (AV × H)
  | [], env, h, k => k env h
  | o :: r, env, h, k => match stepO T G all o env h with
    | some (env', h') => runSeq T G all r env' h' k
    | none => none

def deps (o : Oper) : List Nat := o.after.toList.filterMap fun e => if Region.binds .any e then some e.on else none
def maskOf (acc : List Nat) : List Nat → Nat
  | [] => 0
  | d :: r => Nat.lor (Nat.lor (Nat.shiftLeft 1 d) (acc.getD d 0)) (maskOf acc r)
def masks : List Oper → List Nat → List Nat
  | [], acc => acc
  | o :: r, acc => masks r (acc ++ [maskOf acc (deps o)])
def looks (ops : List Oper) (o : Oper) : List Nat :=
  (o.op.operands.toList.filterMap fun | .tmp t => some t | _ => none) ++
  (match o.guard with
   | some (g, _) => ((ops[g]?).bind (·.dst)).toList
   | none => [])
/-- the first that may go next: such as only read and make first -/
def pickNext (cls : List Nat) (dl : List (List Nat)) (done : List Nat) (w : Bool) : List Nat → Option Nat
  | [] => none
  | i :: r => match done.contains i || (w != (cls.getD i 3 == 3)) || !((dl.getD i []).all done.contains) with
    | true => pickNext cls dl done w r
    | false => some i
def eager (cls : List Nat) (dl : List (List Nat)) (all : List Nat) : Nat → List Nat → List Nat
  | 0, done => done
  | n + 1, done => match pickNext cls dl done false all with
    | some i => eager cls dl all n (done ++ [i])
    | none => match pickNext cls dl done true all with
      | some i => eager cls dl all n (done ++ [i])
      | none => done
def order (T : Ty) (ops : List Oper) : List Nat :=
  eager (ops.map fun o => opC T o.op) (ops.map deps) (List.range ops.length) ops.length []
/-- i before j by the edges, and so in the order -/
def ahead (M π : List Nat) (i j : Nat) : Bool := Nat.testBit (M.getD j 0) i && Nat.blt (π.idxOf i) (π.idxOf j)
def pairOk (T : Ty) (ops : List Oper) (M π : List Nat) (i j : Nat) (oi oj : Oper) : Bool :=
  i == j || ahead M π i j || ahead M π j i ||
    (!(match oi.dst with | some t => (looks ops oj).contains t || oj.dst == some t | none => false) &&
     !(opC T oi.op == 3 && opC T oj.op == 3) &&
     !(opC T oi.op == 3 && Nat.blt (π.idxOf i) (π.idxOf j)))
def orderOk (T : Ty) (ops : List Oper) (M π : List Nat) : Bool :=
  π.length == ops.length &&
  ((List.range ops.length).all fun p => π.idxOf (π.getD p 0) == p && Nat.blt (π.getD p 0) ops.length) &&
  ((List.range ops.length).all fun i => match ops[i]? with
    | some oi => (Nat.blt (π.idxOf i) ops.length) && (deps oi).all (fun d => Nat.blt d i && Nat.blt (π.idxOf d) (π.idxOf i)) &&
        (List.range ops.length).all fun j => match ops[j]? with
          | some oj => pairOk T ops M π i j oi oj
          | none => false
    | none => false)

def AV.same : AV → AV → Bool
  | .bool a, .bool b => a == b
  | .int k a, .int k' b => decide (k = k') && a == b
  | .str a, .str b => decide (a = b)
  | .nilp, .nilp => true
  | .ptr a b, .ptr c d => a == c && b == d
  | .nils, .nils => true
  | .slice a b c d e f, .slice a' b' c' d' e' f' => a == a' && b == b' && c == c' && d == d' && e == e' && f == f'
  | .nilm, .nilm => true
  | .map a, .map b => a == b
  | .nilf, .nilf => true
  | .nili, .nili => true
  | .agg as, .agg bs => sames as bs
  | _, _ => false
where
  sames : List AV → List AV → Bool
    | [], [] => true
    | a :: as, b :: bs => AV.same a b && sames as bs
    | _, _ => false
/-- a reading that was done: which operation, over which slots, what it gave -/
structure Seen where
  i : Nat
  op : Op
  env : List AV
  v : AV
/-- what was read reads the same behind a writer that it is not ordered with -/
noncomputable def reread (T : Ty) (m : Nat) (h : H) : List Seen → Bool
  | [] => true
  | s :: r => match Nat.testBit m s.i with
    | true => reread T m h r
    | false => match opR T s.op (ev s.env) h with
      | some v => match AV.same v s.v with
        | true => reread T m h r
        | false => false
      | none => false
noncomputable def runOrd (T : Ty) (G : Gam) (all : List Oper) (M : List Nat) : List Nat → List Seen → List AV → H → (List AV → H → Option (AV × H)) → Option (AV × H)
  | [], _, env, h, k => k env h
  | i :: r, seen, env, h, k => match all[i]? with
    | none => none
    | some o => match guarded all o env with
      | none => none
      | some false => runOrd T G all M r seen (put o.dst .junk env) h k
      | some true => match opX T G o.op (ev env) h with
        | none => none
        | some (v, h') => match opC T o.op with
          | 1 => runOrd T G all M r (⟨i, o.op, env, v⟩ :: seen) (put o.dst v env) h' k
          | 3 => match reread T (M.getD i 0) h' seen with
            | true => runOrd T G all M r seen (put o.dst v env) h' k
            | false => none
          | _ => runOrd T G all M r seen (put o.dst v env) h' k

/-! ## code -/
structure Ks where
  norm : List AV → H → Option (AV × H)
  exit : Nat → List AV → H → Option (AV × H)
  ret : List AV → H → Option (AV × H)

/-- the slots that a piece of code writes -/
def unionL (a b : List Nat) : List Nat := a ++ b.filter fun x => !a.contains x
def writes : Code → List Nat
  | .region _ ops _ => (ops.toList.filterMap (·.dst)).foldl (fun acc x => if acc.contains x then acc else acc ++ [x]) []
  | .seq a b => unionL (writes a) (writes b)
  | .cond _ a b => unionL (writes a) (writes b)
  | .block _ b => writes b
  | .loop b => writes b
  | .scope b => writes b
  | _ => []
/-- in how many ways (0, 1, more) a piece of code comes to its end; leaves by 'exit id' -/
def exits (id : Nat) : Code → Nat
  | .seq a b => exits id a + exits id b
  | .cond _ a b => exits id a + exits id b
  | .block _ b => exits id b
  | .loop b => exits id b
  | .scope b => exits id b
  | .exit i => if i = id then 1 else 0
  | _ => 0
def ends : Code → Nat
  | .skip => 1
  | .label _ => 1
  | .region .. => 1
  | .seq a b => min (ends a) 1 * ends b
  | .cond _ a b => ends a + ends b
  | .block id b => ends b + exits id b
  | .scope b => ends b
  | _ => 0
def Tup : List Nat → Type
  | [] => Unit
  | _ :: l => AV × Tup l
noncomputable def getT : (l : List Nat) → List AV → Tup l
  | [], _ => ()
  | t :: l, env => (lget .junk env t, getT l env)
noncomputable def putT : (l : List Nat) → Tup l → List AV → List AV
  | [], _, env => env
  | t :: l, v, env => putT l v.2 (lset env t v.1)
/-- ways that meet again -/
def join {α β : Type} (j : α → H → Option β) (body : (α → H → Option β) → H → Option β) (h : H) : Option β := body j h
noncomputable def loopN {α β : Type} (body : (α → H → Option β) → α → H → Option β) (n : Nat) : α → H → Option β :=
  Nat.rec (motive := fun _ => α → H → Option β) (fun _ _ => none) (fun _ self => body self) n
/-- how many rounds a loop is followed at most -/
def fuel : Nat := 1099511627776

noncomputable def den (T : Ty) (G : Gam) : Code → Ks → List AV → H → Option (AV × H)
  | .skip, K, env, h => K.norm env h
  | .label _, K, env, h => K.norm env h
  | .ret, K, env, h => K.ret env h
  | .exit id, K, env, h => K.exit id env h
  | .region _ ops draw, K, env, h => match draw with
    | false => runSeq T G ops.toList ops.toList env h K.norm
    | true => match orderOk T ops.toList (masks ops.toList []) (order T ops.toList) with
      | true => runOrd T G ops.toList (masks ops.toList []) (order T ops.toList) [] env h K.norm
      | false => none
  | .seq a b, K, env, h => match Nat.ble (ends a) 1 with
    | true => den T G a { K with norm := den T G b K } env h
    | false => join (fun v => den T G b K (putT (writes a) v env)) (fun j => den T G a { K with norm := fun e => j (getT (writes a) e) } env) h
  | .cond c a b, K, env, h => match ev env c with
    | .bool true => den T G a K env h
    | .bool false => den T G b K env h
    | _ => none
  | .block id b, K, env, h => den T G b { K with exit := fun i e => match Nat.beq i id with | true => K.norm e | false => K.exit i e } env h
  | .loop b, K, env, h => loopN (fun self v => den T G b { K with norm := fun e => self (getT (writes b) e) } (putT (writes b) v env)) fuel (getT (writes b) env) h
  | _, _, _, _ => none

/-- what a function's end hands back -/
noncomputable def aRes1 (T : Ty) (env : List AV) (h : H) : ResultVar → Option AV
  | .tmp t => some (lget .junk env t)
  | .cell a t => opR T (.load t (.tmp a)) (ev env) h
noncomputable def aResL (T : Ty) (env : List AV) (h : H) : List ResultVar → Option (List AV)
  | [] => some []
  | r :: l => match aRes1 T env h r with
    | some v => match aResL T env h l with
      | some vs => some (v :: vs)
      | none => none
    | none => none
noncomputable def aResults (T : Ty) (rs : List ResultVar) (env : List AV) (h : H) : Option (AV × H) :=
  match aResL T env h rs with
  | some [v] => some (v, h)
  | some vs => some (.tuple vs, h)
  | none => none
/-- a function's body, from its arguments on -/
noncomputable def denF (T : Ty) (G : Gam) (f : Func) : Fun := fun args h =>
  match f.body with
  | some c => den T G c ⟨aResults T f.results.toList, fun _ _ _ => none, aResults T f.results.toList⟩ (args ++ List.replicate (f.ntmps - args.length) .junk) h
  | none => none
end Go.Am
