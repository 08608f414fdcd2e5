/- The functional semantics of code: what a run asks of its continuation. -/
import Derived.Test.YtdaibgpceldbdaaGreatDoorAmFastOk
namespace Go.Am
open Go

/-! ## a region -/
noncomputable def put (dst : Option Nat) (v : AV) (env : List AV) : List AV :=
  match dst with
  | some d => lset env d v
  | none => env
noncomputable def lsetK : List AV → Nat → AV → (List AV → Prop) → Prop := @List.rec AV (fun _ => Nat → AV → (List AV → Prop) → P2) (fun _ _ k => k [])
  (fun a t ih i v k => Nat.rec (motive := fun _ => Prop) (k (v :: t)) (fun j _ => ih j v fun t' => k (a :: t')) i)
theorem lsetK_eq : ∀ (l : List AV) (i : Nat) (v : AV) (k : List AV → Prop), lsetK l i v k = k (lset l i v)
  | [], _, _, _ => rfl
  | _ :: _, 0, _, _ => rfl
  | a :: t, i + 1, v, k => by
    show lsetK t i v (fun t' => k (a :: t')) = _
    rw [lsetK_eq t]; rfl
/-- 'put', reckoned at once -/
noncomputable def putE (dst : Option Nat) (v : AV) (env : List AV) (k : List AV → Prop) : Prop :=
  match dst with
  | some d => lsetK env d v k
  | none => k env
theorem putE_eq (dst : Option Nat) (v : AV) (env : List AV) (k : List AV → Prop) : putE dst v env k = k (put dst v env) := by
  cases dst with
  | none => rfl
  | some d => exact lsetK_eq env d v k
/-- an operation under its guard -/
noncomputable def guardK (J : Joins) (all : List Oper) (o : Oper) (env : List AV) (h : H) (run : (AV → H → Prop) → Prop) (k : AV → H → Prop) : Prop :=
  match o.guard with
  | none => run k
  | some (j, want) => match all[j]? with
    | some oj => match oj.dst with
      | some d => J.jn k fun j => asBU (lget .junk env d) (fun b => match want with
        | true => br b (run j) (j skipV h)
        | false => br b (j skipV h) (run j)) (j skipV h)
      | none => False
    | none => False
/-- in the order of the text; top: a statement of a function, not of a round -/
noncomputable def runSeq (T : Ty) (G : Gam) (top : Bool) (all : List Oper) : List Oper → List AV → List Dfr → H → (List AV → List Dfr → H → Prop) → Prop
  | [], env, ds, h, k => k env ds h
  | o :: r, env, ds, h, k => match o.op with
    | .defer c => match top, o.guard, c.callee with
      | true, none, .value f => match ev env f with
        | .func (.func g) first captured => putE o.dst .junk env fun env1 => runSeq T G top all r env1 (.call g (first ++ c.args.toList.map (ev env)) captured :: ds) h k
        | _ => False
      | _, _, _ => False
    | _ => guardK G.J all o env h (opF T G o.type o.op (ev env) h) fun v h' => putE o.dst v env fun env => runSeq T G top all r env ds h' k

def deps (o : Oper) : List Nat := o.after.toList.filterMap fun e => if Region.binds .any e then some e.on else none
def maskOf (acc : List Nat) : List Nat → Nat
  | [] => 0
  | d :: r => Nat.lor (Nat.lor (Nat.shiftLeft 1 d) (acc.getD d 0)) (maskOf acc r)
def masks : List Oper → List Nat → List Nat
  | [], acc => acc
  | o :: r, acc => masks r (acc ++ [maskOf acc (deps o)])
def looks (ops : List Oper) (o : Oper) : List Nat :=
  (o.op.operands.toList.filterMap fun | .tmp t => some t | _ => none) ++
  (match o.guard with
   | some (g, _) => ((ops[g]?).bind (·.dst)).toList
   | none => [])
/-- the first that may go next: such as only read and make first -/
def pickNext (cls : List Nat) (dl : List (List Nat)) (done : List Nat) (w : Bool) : List Nat → Option Nat
  | [] => none
  | i :: r => match done.contains i || (w != (cls.getD i 3 == 3)) || !((dl.getD i []).all done.contains) with
    | true => pickNext cls dl done w r
    | false => some i
def eager (cls : List Nat) (dl : List (List Nat)) (all : List Nat) : Nat → List Nat → List Nat
  | 0, done => done
  | n + 1, done => match pickNext cls dl done false all with
    | some i => eager cls dl all n (done ++ [i])
    | none => match pickNext cls dl done true all with
      | some i => eager cls dl all n (done ++ [i])
      | none => done
def order (T : Ty) (ops : List Oper) : List Nat :=
  eager (ops.map fun o => opC T o.op) (ops.map deps) (List.range ops.length) ops.length []
/-- i before j by the edges, and so in the order -/
def ahead (M π : List Nat) (i j : Nat) : Bool := Nat.testBit (M.getD j 0) i && Nat.blt (π.idxOf i) (π.idxOf j)
def pairOk (T : Ty) (ops : List Oper) (M π : List Nat) (i j : Nat) (oi oj : Oper) : Bool :=
  i == j || ahead M π i j || ahead M π j i ||
    (!(match oi.dst with | some t => (looks ops oj).contains t || oj.dst == some t | none => false) &&
     !(opC T oi.op == 3 && opC T oj.op == 3) &&
     !(opC T oi.op == 3 && Nat.blt (π.idxOf i) (π.idxOf j)))
def orderOk (T : Ty) (ops : List Oper) (M π : List Nat) : Bool :=
  π.length == ops.length &&
  ((List.range ops.length).all fun p => π.idxOf (π.getD p 0) == p && Nat.blt (π.getD p 0) ops.length) &&
  ((List.range ops.length).all fun i => match ops[i]? with
    | some oi => (Nat.blt (π.idxOf i) ops.length) && (deps oi).all (fun d => Nat.blt d i && Nat.blt (π.idxOf d) (π.idxOf i)) &&
        (List.range ops.length).all fun j => match ops[j]? with
          | some oj => pairOk T ops M π i j oi oj
          | none => false
    | none => false)

def AV.same : AV → AV → Bool
  | .bool a, .bool b => a == b
  | .int k a, .int k' b => decide (k = k') && a == b
  | .str a, .str b => decide (a = b)
  | .nilp, .nilp => true
  | .ptr a b, .ptr c d => a == c && b == d
  | .nils, .nils => true
  | .slice a b c d e f, .slice a' b' c' d' e' f' => a == a' && b == b' && c == c' && d == d' && e == e' && f == f'
  | .nilm, .nilm => true
  | .map a, .map b => a == b
  | .nilf, .nilf => true
  | .nili, .nili => true
  | .agg as, .agg bs => sames as bs
  | _, _ => false
where
  sames : List AV → List AV → Bool
    | [], [] => true
    | a :: as, b :: bs => AV.same a b && sames as bs
    | _, _ => false
/-- a reading that was done: which operation, over which slots, what it gave -/
structure Seen where
  i : Nat
  op : Op
  env : List AV
  v : AV
  b : Bool
/-- it reads so -/
noncomputable def readsSo (o : Option AV) (v : AV) : Bool := Option.rec (motive := fun _ => Bool) false (fun x => AV.same x v) o
/-- what was read reads the same behind a writer that it is not ordered with -/
noncomputable def rereadK (T : Ty) (m : Nat) (h : H) (k : Prop) : List Seen → Prop
  | [] => k
  | s :: r => match Nat.testBit m s.i with
    | true => rereadK T m h k r
    | false => ck (Bool.rec (motive := fun _ => Bool) true (readsSo (opR T s.op (ev s.env) h) s.v) s.b) (rereadK T m h k r)
/-- an operation that reads, under its guard: whether it was done, and what it gave -/
noncomputable def guardB (J : Joins) (all : List Oper) (o : Oper) (env : List AV) (run : (AV → Prop) → Prop) (k : Bool → AV → Prop) : Prop :=
  match o.guard with
  | none => run (k true)
  | some (j, want) => match all[j]? with
    | some oj => match oj.dst with
      | some d => J.jb k fun j => asBU (lget .junk env d) (fun b => match want with
        | true => br b (run (j true)) (j false skipV)
        | false => br b (j false skipV) (run (j true))) (j false skipV)
      | none => False
    | none => False
noncomputable def runOrd (T : Ty) (G : Gam) (all : List Oper) (M : List Nat) : List Nat → List Seen → List AV → H → (List AV → H → Prop) → Prop
  | [], _, env, h, k => k env h
  | i :: r, seen, env, h, k => match all[i]? with
    | none => False
    | some o => match opC T o.op with
      | 1 => guardB G.J all o env (fun k => opF T G o.type o.op (ev env) h fun v _ => k v) fun b v => putE o.dst v env fun env' => runOrd T G all M r (⟨i, o.op, env, v, b⟩ :: seen) env' h k
      | 3 => guardK G.J all o env h (opF T G o.type o.op (ev env) h) fun v h' => rereadK T (M.getD i 0) h' (putE o.dst v env fun env => runOrd T G all M r seen env h' k) seen
      | _ => guardK G.J all o env h (opF T G o.type o.op (ev env) h) fun v h' => putE o.dst v env fun env => runOrd T G all M r seen env h' k

/-! ## code -/
/-- the slots that are read -/
def addL (x : Nat) (l : List Nat) : List Nat := if l.contains x then l else x :: l
def unionL (a b : List Nat) : List Nat := a.foldr addL b
def readsO (x : Operand) (acc : List Nat) : List Nat :=
  match x with
  | .tmp t => addL t acc
  | _ => acc
/-- the slots that are read behind a piece of code: where it ends, where it leaves a block, where the function ends -/
structure Lv where
  norm : List Nat
  ex : List (Nat × List Nat)
  ret : List Nat
def guardRd (ops : List Oper) (o : Oper) (acc : List Nat) : List Nat :=
  match o.guard with
  | some (j, _) => match ops[j]? with
    | some oj => match oj.dst with
      | some d => addL d acc
      | none => acc
    | none => acc
  | none => acc
def lessO (d : Option Nat) (acc : List Nat) : List Nat :=
  match d with
  | some d => acc.filter fun x => !(Nat.beq x d)
  | none => acc
def readsR (all : List Oper) (ops : List Oper) (acc : List Nat) : List Nat := ops.foldr (fun o acc => guardRd all o (o.op.operands.toList.foldr readsO (lessO o.dst acc))) acc
def atExit (i : Nat) : List (Nat × List Nat) → List Nat
  | [] => []
  | p :: l => if Nat.beq p.1 i then p.2 else atExit i l
def reads : Code → Lv → List Nat
  | .region _ ops _, L => readsR ops.toList ops.toList L.norm
  | .seq a b, L => reads a ⟨reads b L, L.ex, L.ret⟩
  | .cond c a b, L => readsO c (unionL (reads a L) (reads b L))
  | .block id b, L => reads b ⟨L.norm, (id, L.norm) :: L.ex, L.ret⟩
  | .loop b, L => reads b ⟨[], L.ex, L.ret⟩
  | .scope b, L => reads b L
  | .rangeFunc f _ a b, L => readsO f (unionL (reads a ⟨reads b ⟨[], L.ex, L.ret⟩, L.ex, L.ret⟩) (L.ex.foldr (fun p acc => unionL p.2 acc) (unionL L.ret L.norm)))
  | .skip, L => L.norm
  | .label _, L => L.norm
  | .ret, L => L.ret
  | .exit i, L => atExit i L.ex
  | _, _ => []
/-- in how many ways (0, 1, more) a piece of code comes to its end; leaves by 'exit id' -/
def exits (id : Nat) : Code → Nat
  | .seq a b => exits id a + exits id b
  | .cond _ a b => exits id a + exits id b
  | .block _ b => exits id b
  | .loop b => exits id b
  | .scope b => exits id b
  | .rangeFunc _ _ _ _ => 1
  | .exit i => if i = id then 1 else 0
  | _ => 0
def ends : Code → Nat
  | .skip => 1
  | .label _ => 1
  | .region .. => 1
  | .rangeFunc .. => 1
  | .seq a b => min (ends a) 1 * ends b
  | .cond _ a b => ends a + ends b
  | .block id b => ends b + exits id b
  | .scope b => ends b
  | _ => 0
def Tup : List Nat → Type
  | [] => Unit
  | _ :: l => AV × Tup l
noncomputable def getT : (l : List Nat) → List AV → Tup l
  | [], _ => ()
  | t :: l, env => (lget .junk env t, getT l env)
/-- slots i, i+1, .. (n of them): those of L as v has them, the others are not told; L rises -/
noncomputable def mkEnv : (n : Nat) → Nat → (L : List Nat) → Tup L → List AV
  | 0, _, _, _ => []
  | n + 1, i, [], v => .junk :: mkEnv n (i + 1) [] v
  | n + 1, i, t :: L, v => match Nat.beq i t with
    | true => v.1 :: mkEnv n (i + 1) L v.2
    | false => .junk :: mkEnv n (i + 1) (t :: L) v
def live (n : Nat) (L : List Nat) : List Nat := (List.range n).filter L.contains

/-- behind a range over a function -/
noncomputable def endRange (id0 id1 : Nat) (K : Ks) (env : List AV) (ds : List Dfr) (h : H) : Prop :=
  match h.get id1 with
  | .loop .busy _ _ _ _ _ => False
  | .loop _ pend _ _ _ _ => setLoop id1 .exhausted pend h fun h' => match pend with
    | none => K.norm env (.coll id0 :: ds) h'
    | some .ret => K.ret env (.coll id0 :: ds) h'
    | some (.exit i) => K.exit i env (.coll id0 :: ds) h'
    | _ => False
  | _ => False
/-- L: the slots that are read behind the piece -/
noncomputable def den (T : Ty) (G : Gam) (top : Bool) (n : Nat) : Code → Lv → Ks → List AV → List Dfr → H → Prop
  | .skip, _, K, env, ds, h => K.norm env ds h
  | .label _, _, K, env, ds, h => K.norm env ds h
  | .ret, _, K, env, ds, h => K.ret env ds h
  | .exit id, _, K, env, ds, h => K.exit id env ds h
  | .region _ ops draw, _, K, env, ds, h => match draw with
    | false => runSeq T G top ops.toList ops.toList env ds h K.norm
    | true => match orderOk T ops.toList (masks ops.toList []) (order T ops.toList) with
      | true => runOrd T G ops.toList (masks ops.toList []) (order T ops.toList) [] env h fun env h => K.norm env ds h
      | false => False
  | .seq a b, L, K, env, ds, h => match Nat.ble (ends a) 1 with
    | true => den T G top n a ⟨reads b L, L.ex, L.ret⟩ ⟨den T G top n b L K, K.exit, K.ret⟩ env ds h
    | false => G.J.jd (α := Tup (live n (reads b L))) (fun v => den T G top n b L K (mkEnv n 0 (live n (reads b L)) v)) fun j => den T G top n a ⟨reads b L, L.ex, L.ret⟩ ⟨fun e => j (getT (live n (reads b L)) e), K.exit, K.ret⟩ env ds h
  | .cond c a b, L, K, env, ds, h => asB (ev env c) fun c => br c (den T G top n a L K env ds h) (den T G top n b L K env ds h)
  | .block id b, L, K, env, ds, h => den T G top n b ⟨L.norm, (id, L.norm) :: L.ex, L.ret⟩ ⟨K.norm, fun i e => match Nat.beq i id with
    | true => K.norm e
    | false => K.exit i e, K.ret⟩ env ds h
  | .scope b, L, K, env, ds, h => den T G top n b L K env ds h
  | .loop b, L, K, env, ds, h => G.J.lp (α := Tup (live n (reads b ⟨[], L.ex, L.ret⟩))) (fun self v => den T G top n b ⟨reads b ⟨[], L.ex, L.ret⟩, L.ex, L.ret⟩ ⟨fun e => self (getT (live n (reads b ⟨[], L.ex, L.ret⟩)) e), K.exit, K.ret⟩ (mkEnv n 0 (live n (reads b ⟨[], L.ex, L.ret⟩)) v)) (getT (live n (reads b ⟨[], L.ex, L.ret⟩)) env) ds h
  | .rangeFunc g ps a b, _, K, env, ds, h => match top with
    | true => match ev env g with
      | .func (.func f) first captured => pushK (.defd true) h fun id0 h => pushK (.loop .ready none ps.toList a b env) h fun id1 h => G.it f (first ++ (.yield id1 :: captured)) h fun _ h => endRange id0 id1 K env ds h
      | _ => False
    | false => False
  | _, _, _, _, _, _ => False

/-- deferred calls, one behind the other -/
noncomputable def leaveK (G : Gam) : List Dfr → H → (H → Prop) → Prop
  | [], h, k => k h
  | .coll id :: ds, h, k => match h.get id with
    | .defd true => putK id (.defd false) h fun h => leaveK G ds h k
    | _ => False
  | .call f as cs :: ds, h, k => G.dfn f (as ++ cs) h fun _ h => leaveK G ds h k
/-- what a function's end hands back -/
noncomputable def resK (T : Ty) (env : List AV) (h : H) : List ResultVar → List Nat → (List AV → Prop) → Prop
  | [], _, k => k []
  | r :: l, ts, k => match r, ts with
    | .tmp t, ty :: ts => castK (T ty).kd (lget .junk env t) fun v => resK T env h l ts fun vs => k (v :: vs)
    | .cell a t, _ => ldK T t (lget .junk env a) h fun v => resK T env h l ts.tail fun vs => k (v :: vs)
    | _, _ => False
noncomputable def resultsK (T : Ty) (rs : List ResultVar) (ts : List Nat) (env : List AV) (h : H) (k : AV → H → Prop) : Prop :=
  resK T env h rs ts fun vs => match vs with
    | [v] => k v h
    | vs => k (.tuple vs) h
def resSlots : List ResultVar → List Nat
  | [] => []
  | .tmp t :: l => t :: resSlots l
  | .cell a _ :: l => a :: resSlots l
noncomputable def padTo (n : Nat) : List AV → List AV := Nat.rec (motive := fun _ => List AV → List AV) (fun _ => []) (fun _ ih l => List.rec (motive := fun _ => List AV) (.junk :: ih []) (fun a t _ => a :: ih t) l) n
/-- a function's body, from its arguments on -/
noncomputable def denF (T : Ty) (G : Gam) (f : Func) : Fun := fun args h k =>
  match f.body, Nat.ble args.length f.ntmps with
  | some c, true => den T G true f.ntmps c ⟨resSlots f.results.toList, [], resSlots f.results.toList⟩ ⟨fun env ds h => leaveK G ds h fun h => resultsK T f.results.toList f.resultTypes.toList env h k, fun _ _ _ _ => False, fun env ds h => leaveK G ds h fun h => resultsK T f.results.toList f.resultTypes.toList env h k⟩ (padTo f.ntmps args) [] h
  | _, _ => False
noncomputable def noDfr (ds : List Dfr) (p : Prop) : Prop :=
  match ds with
  | [] => p
  | _ => False
/-- the same, of a function that is deferred, and defers nothing itself -/
noncomputable def denD (T : Ty) (G : Gam) (f : Func) : Fun := fun args h k =>
  match f.body, Nat.ble args.length f.ntmps with
  | some c, true => den T G true f.ntmps c ⟨resSlots f.results.toList, [], resSlots f.results.toList⟩ ⟨fun env ds h => noDfr ds (resultsK T f.results.toList f.resultTypes.toList env h k), fun _ _ _ _ => False, fun env ds h => noDfr ds (resultsK T f.results.toList f.resultTypes.toList env h k)⟩ (padTo f.ntmps args) [] h
  | _, _ => False
/-- the code of a round -/
noncomputable def denR (T : Ty) (G : Gam) : Code → Ks → List AV → List Dfr → H → Prop := fun c K env ds h => den T G false env.length c ⟨[], [], []⟩ K env ds h
end Go.Am
