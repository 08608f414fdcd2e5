import Derived.Test.YtodlaigjjknpkaaGreatDoorAmL2
noncomputable section
set_option linter.all false
namespace Go.Am
open Go
abbrev Fun:=List AV→H→(AV→H→Prop)→Prop
inductive Dfr where
  | coll (id : Nat)
  | call (f : Nat) (args captured : List AV)
structure Ks where
  norm : List AV→List Dfr→H→Prop
  exit : Nat→List AV→List Dfr→H→Prop
  ret : List AV→List Dfr→H→Prop
def ZW {α : Type} (body : (α→List Dfr→H→Prop)→α→List Dfr→H→Prop) (n : Nat) : α→List Dfr→H→Prop :=
  Nat.rec (motive:=fun _=>α→List Dfr→H→Prop) (fun _ _ _=>False) (fun _ self=>body self) n
def fuel : Nat:=4611686018427387904
structure Qm where
  jn : (AV→H→Prop)→((AV→H→Prop)→Prop)→Prop
  jb : (Bool→AV→Prop)→((Bool→AV→Prop)→Prop)→Prop
  jd : {α : Type}→(α→List Dfr→H→Prop)→((α→List Dfr→H→Prop)→Prop)→Prop
  lp : {α : Type}→((α→List Dfr→H→Prop)→α→List Dfr→H→Prop)→α→List Dfr→H→Prop
  jn_ok : ∀ j b,jn j b = b j
  jb_ok : ∀ j b,jb j b = b j
  jd_ok : ∀ (α : Type) (j : α→List Dfr→H→Prop) b,jd j b = b j
  lp_ok : ∀ (α : Type) (b : (α→List Dfr→H→Prop)→α→List Dfr→H→Prop) v ds h,lp b v ds h = ZW b fuel v ds h
def J0 : Qm:=⟨fun j b=>b j,fun j b=>b j,fun j b=>b j,fun b=>ZW b fuel,fun _ _=>rfl,fun _ _=>rfl,fun _ _ _=>rfl,fun _ _ _ _ _=>rfl⟩
structure Gam where
  J : Qm
  fn : Nat→Fun
  it : Nat→Fun
  dfn : Nat→Fun
  code : Code→Ks→List AV→List Dfr→H→Prop
def ev (env : List AV) : Operand→AV
  | .tmp t=>Wn .junk env t
  | .const v=>QeV v
  | .global g=>.glob g 0
  | .func f=>.func (.func f) [] []
def Qde (T : Ty) (s d : Nat) (v : AV) : Option AV :=
  match (T d).kd with
  | .int k => match (T s).kd.known with
    | true=>aInt k v
    | false=>none
  | .str => match (T s).kd, v with
    | .str,.str x=>some (.str x)
    | _,_=>none
  | _=>none
def UJ (T : Ty) (t f : Nat) : Option (Nat × Nat) :=
  match (T t).kd with
  | .struct fs => match fs[f]? with
    | some (off, ft) => match (T ft).kd.known && Nat.ble 1 (T ft).size with
      | true=>some (off,ft)
      | false=>none
    | none=>none
  | _=>none
def opP (T : Ty) (o : Op) (ρ : Operand→AV) : Option AV :=
  match o with
  | .move x=>some (ρ x)
  | .assign x=>some (ρ x)
  | .pick c a b=>Qdd (ρ c) (ρ a) (ρ b)
  | .nilCheck x=>Ku (ρ x)
  | .binOp op t x y _=>Wt T op t (Wh x || Wh y) (ρ x) (ρ y)
  | .unOp op _ x=>aUn op (ρ x)
  | .convert s d x=>Qde T s d (ρ x)
  | .makeFunc fn a b=>some (.func fn (a.toList.map ρ) (b.toList.map ρ))
  | .makeInterface t x => match (T t).kd with
    | .iface=>none
    | .other=>none
    | _=>some (.iface t (ρ x))
  | .fieldAddr t x f => match UJ T t f with
    | some (off,_)=>VY off (ρ x)
    | none=>none
  | .field t x f => match UJ T t f with
    | some (off,ft)=>Do (T ft).kd.agg (T ft).size off (ρ x)
    | none=>none
  | .indexAddr t x i => match (T t).kd with
    | .slice e => match (T e).kd.known with
      | true=>WN (T e).size (ρ x) (ρ i)
      | false=>none
    | .arr n e => match (T e).kd.known with
      | true=>YC n (T e).size (ρ x) (ρ i)
      | false=>none
    | _=>none
  | .index t x i => match (T t).kd with
    | .str=>Vv (ρ x) (ρ i)
    | .arr n e => match (T e).kd.known with
      | true=>UO n (T e).kd.agg (T e).size (ρ x) (ρ i)
      | false=>none
    | _=>none
  | .slice t x lo hi none => match (T t).kd with
    | .str=>Vt (ρ x) (lo.map ρ) (hi.map ρ)
    | .slice e => match (T e).kd.known with
      | true=>WM (T e).size (ρ x) (lo.map ρ) (hi.map ρ) none
      | false=>none
    | _=>none
  | .extract x i=>JR i (ρ x)
  | .build t ps => match (T t).kd with
    | .struct fs => match fs.all (fun p => (T p.2).kd.known) with
      | true => match Ww T fs (ps.toList.map fun p => (p.1, ρ p.2)) with
        | some l=>Us (T t).zero l
        | none=>none
      | false=>none
    | .arr _ e => match (T e).kd.known with
      | true=>Us (T t).zero (Uc (T e).size (ps.toList.map fun p=>(p.1,ρ p.2)))
      | false=>none
    | _=>none
  | .typeAssert x _ a ok=>Xr T a ok (ρ x)
  | .slice t x lo hi (some m) => match (T t).kd with
    | .slice e => match (T e).kd.known with
      | true=>Dm (T e).size (ρ x) (lo.map ρ) (hi.map ρ) (ρ m)
      | false=>none
    | _=>none
  | .call { callee := .builtin .len, args, argTypes } => match args.toList, argTypes.toList with
    | [x], [t] => match (T t).kd with
      | .str=>Xp (ρ x)
      | .slice _=>Gi (ρ x)
      | _=>none
    | _,_=>none
  | .call { callee:=.builtin b,args,argTypes }=>aBiP T b (args.toList.map ρ) argTypes.toList
  | _=>none
def opR (T : Ty) (o : Op) (ρ : Operand→AV) (h : H) : Option AV :=
  match o with
  | .load t a => match (T t).kd.known with
    | true => match (T t).kd.agg with
      | true=>ZU (T t).size (ρ a) h
      | false=>Zl (ρ a) h
    | false=>none
  | .convert s d x => match (T s).kd, (T d).kd with
    | .slice e, .str => match (T e).kd.isU8 with
      | true=>Kr (ρ x) h
      | false=>none
    | .ptr e, .unsafe_ => match (T e).kd.known && Nat.ble 1 (T e).size with
      | true=>aToU (ρ x) h
      | false=>none
    | .unsafe_, .ptr e => match (T e).kd.known && Nat.ble 1 (T e).size with
      | true=>aOfU e (T e).size (ρ x) h
      | false=>none
    | _,_=>none
  | .lookup t x i ok => match (T t).kd with
    | .map k e=>Zf T k e ok (ρ x) (ρ i) h
    | _=>none
  | .entry it=>ZV (ρ it) h
  | .call { callee := .builtin .len, args, argTypes } => match args.toList, argTypes.toList with
    | [x], [t] => match (T t).kd with
      | .map _ _=>JP (ρ x) h
      | _=>none
    | _,_=>none
  | _=>none
def XB (T : Ty) (e : Nat) : Bool:=(T e).kd.known && Nat.ble 1 (T e).size && Nat.beq (T e).zero.length (T e).size && Nat.ble 1 (T e).bytes
def opA (T : Ty) (o : Op) (ρ : Operand→AV) : Option (Blk × (Nat→AV)) :=
  match o with
  | .alloc e => match (T e).kd.known with
    | true=>QfV e (T e).zero
    | false=>none
  | .box e x=>QfU e (ρ x)
  | .buildSlice t n ps => match (T t).kd with
    | .slice e => match XB T e && Nat.ble 0 n && Nat.ble (Nat.mul n (T e).size) 16777216 with
      | true=>W7 (T e).size (T e).kd.isU8 e (T e).zero n (Uc (T e).size (ps.toList.map fun p=>(p.1,ρ p.2)))
      | false=>none
    | _=>none
  | .convert s d x => match (T s).kd, (T d).kd with
    | .str, .slice e => match (T e).kd.isU8 with
      | true=>Kt e (ρ x)
      | false=>none
    | _,_=>none
  | .makeSlice t l c => match (T t).kd with
    | .slice e => match XB T e with
      | true=>Dn T e (ρ l) (ρ c)
      | false=>none
    | _=>none
  | _=>none
def Vz : Kd→Bool
  | .str=>true
  | .slice _=>true
  | _=>false
def op2 (o : Option (AV × H)) (k : AV→H→Prop) : Prop :=
  match o with
  | some (v,h')=>k v h'
  | none=>False
def op1 (o : Option H) (k : AV→H→Prop) : Prop :=
  match o with
  | some h'=>k .junk h'
  | none=>False
def Z7 (id : Nat) (st : LoopState) (pend : Option Code) (h : H) (k : H→Prop) : Prop :=
  match h.get id with
  | .loop _ _ ps a b e=>ZL id (.loop st pend ps a b e) h k
  | _=>False
def DL : List Nat→List AV→List AV→List AV
  | p :: ps,a :: as,env=>DL ps as (XS env p a)
  | _,_,env=>env
def JV (G : Gam) (id : Nat) (args : List AV) (h : H) (k : AV→H→Prop) : Prop :=
  match h.get id with
  | .loop _ _ ps a b env => match Nat.beq args.length ps.length with
    | true=>G.code a
        ⟨fun e1 d1 h1=>match h1.get id with
          | .loop .ready pend _ _ _ _ => Z7 id .busy pend h1 fun h2 => G.code b
            ⟨fun _ _ h3=>Z7 id .ready none h3 (k (.bool true)),fun i _ _ h3=>Z7 id .done (some (.exit i)) h3 (k (.bool false)),fun _ _ h3=>Z7 id .done (some .ret) h3 (k (.bool false))⟩ e1 d1 h2
          | _=>False,fun _ _ _ _=>False,fun _ _ _=>False⟩ (DL ps args env) [] h
    | false=>False
  | _=>False
def aMark (v : AV) (h : H) : Option (Nat × Blk) :=
  match v with
  | .slice id _ _ cap _ _ => match h.get id with
    | .bytes t 0 false s => match Nat.blt 0 cap with
      | true=>some (id,.bytes t 0 true s)
      | false=>none
    | _=>none
  | _=>none
def markK (same : Bool) (s d : Kd) (kd : Nat→Kd) (x : AV) (h : H) (k : AV→H→Prop) : Prop :=
  match same,s,d with
  | true, .slice e, .slice _ => match (kd e).isU8 with
    | true => match aMark x h with
      | some p => match h.put p.1 p.2 with
        | some h'=>k x h'
        | none=>False
      | none=>False
    | false=>False
  | _,_,_=>False
def opW (T : Ty) (G : Gam) (o : Op) (ρ : Operand→AV) (h : H) (k : AV→H→Prop) : Prop :=
  match o with
  | .store t a x => match (T t).kd.known && Nat.ble 0 (T t).size with
    | true=>op1 (Z6 (T t).size (ρ a) (ρ x) h) k
    | false=>False
  | .mapUpdate t m i v => match (T t).kd with
    | .map kt _=>op1 (VX T kt (ρ m) (ρ i) (ρ v) h) k
    | _=>False
  | .makeMap _ none=>op2 (JO h) k
  | .range t x => match (T t).kd with
    | .map _ _=>Z9 (ρ x) h k
    | _=>False
  | .next i false=>YV (ρ i) h k
  | .call { callee := .builtin .append, args, argTypes } => match args.toList, argTypes.toList with
    | [s, x], [t, t2] => match (T t).kd with
      | .slice e => match XB T e && Vz (T t2).kd with
        | true => match (T e).kd.isU8 && Nat.beq (T e).size 1 && Nat.beq (T e).bytes 1 with
          | true=>op2 (Uu e (ρ s) (ρ x) h) k
          | false=>op2 (Ut e (T e).size (T e).bytes (ρ s) (ρ x) h) k
        | false=>False
      | _=>False
    | _,_=>False
  | .call { callee := .builtin .delete, args, argTypes } => match args.toList, argTypes.toList with
    | [m, i], [t, _] => match (T t).kd with
      | .map kt _ => match JN T kt (ρ m) (ρ i) h with
        | some h'=>k (.tuple []) h'
        | none=>False
      | _=>False
    | _,_=>False
  | .call { callee:=.builtin b,args,argTypes }=>op2 (aBiW T b (args.toList.map ρ) argTypes.toList h) k
  | .call { callee := .value f, args, .. } => match ρ f with
    | .func (.func g) first captured=>G.fn g (first ++ (args.toList.map ρ ++ captured)) h k
    | .yield id=>JV G id (args.toList.map ρ) h k
    | _=>False
  | .convert s d x=>markK (Nat.beq s d) (T s).kd (T d).kd (fun e=>(T e).kd) (ρ x) h k
  | .insert t m i v => match (T t).kd with
    | .map kt _=>op1 (VX T kt (ρ m) (ρ i) (ρ v) h) k
    | _=>False
  | _=>False
def opC (T : Ty) (o : Op) : Nat :=
  match o with
  | .load ..=>1
  | .convert s d _ => match (T s).kd, (T d).kd with
    | .slice _,.str=>1
    | .ptr _,.unsafe_=>1
    | .unsafe_,.ptr _=>1
    | .str,.slice _=>2
    | .slice _,.slice _=>3
    | _,_=>0
  | .alloc _=>2
  | .box ..=>2
  | .makeSlice ..=>2
  | .lookup ..=>1
  | .entry _=>1
  | .mapUpdate ..=>3
  | .makeMap ..=>3
  | .range ..=>3
  | .next ..=>3
  | .call { callee := .builtin .len, argTypes, .. } => match argTypes.toList with
    | [t] => match (T t).kd with
      | .map _ _=>1
      | _=>0
    | _=>0
  | .buildSlice ..=>2
  | .store ..=>3
  | .call { callee:=.builtin b,.. }=>biC b
  | .call _=>3
  | .insert ..=>3
  | _=>0
def opX (T : Ty) (G : Gam) (o : Op) (ρ : Operand→AV) (h : H) (k : AV→H→Prop) : Prop :=
  match opC T o with
  | 0 => match opP T o ρ with
    | some v=>k v h
    | none=>False
  | 1 => match opR T o ρ h with
    | some v=>k v h
    | none=>False
  | 2=>op2 (aNew (opA T o ρ) h) k
  | _=>opW T G o ρ h k
end Go.Am
namespace Go.Am
open Go
def Gr (a b : Nat) : Nat:=Bool.rec (motive:=fun _=>Nat) b a (Nat.ble a b)
theorem QbU (a b : Nat) : Gr a b = min a b:=by
  unfold Gr; cases h : Nat.ble a b with
  | true=>rw [Qv] at h; show a = _; omega
  | false => have : ¬ a ≤ b := fun h' => by rw [← Qv, h] at h'; cases h'
             show b = _; omega
def Dz (x : Int) (n : Nat) : Int:=Int.rec (motive:=fun _=>Int) (fun m=>Int.ofNat (Nat.shiftRight m n)) (fun m=>Int.negSucc (Nat.shiftRight m n)) x
def landF (kk : IntKind) (x y : Int) : Int:=Qu kk (Int.ofNat (Nat.land (toU kk x) (toU kk y)))
def lorF (kk : IntKind) (x y : Int) : Int:=Qu kk (Int.ofNat (Nat.lor (toU kk x) (toU kk y)))
def lxorF (kk : IntKind) (x y : Int) : Int:=Qu kk (Int.ofNat (Nat.xor (toU kk x) (toU kk y)))
def landnF (kk : IntKind) (x y : Int) : Int:=Qu kk (Int.ofNat (Nat.land (toU kk x) (Nat.sub (Nat.sub (KY kk) 1) (toU kk y))))
def shlF (kk : IntKind) (x : Int) (n : Nat) : Int:=Qu kk (Int.mul x (Int.ofNat (Nat.shiftLeft 1 (Gr n kk.bits))))
def QbN (c a b : AV) (k : AV→Prop) : Prop:=asB c fun c=>br c (k a) (k b)
def Qo (c a b : AV) (k : Bool→Prop) : Prop:=asB c fun c=>br c (asB a k) (asB b k)
def QbP (kk : IntKind) (c a b : AV) (k : Int→Prop) : Prop:=asB c fun c=>br c (asI kk a k) (asI kk b k)
def QbO (c a b : AV) (k : Str→Prop) : Prop:=asB c fun c=>br c (asS a k) (asS b k)
def QeL (kd : Kd) (c a b : AV) (k : AV→Prop) : Prop :=
  match kd with
  | .bool=>Qo c a b fun v=>k (.bool v)
  | .int kk=>QbP kk c a b fun v=>k (.int kk v)
  | .str=>QbO c a b fun v=>k (.str v)
  | _=>QbN c a b k
def Za : AV→Prop→Prop:=@AV.rec (fun _=>Prop→P2) (fun _=>Unit)
  (fun _=>False) (fun _ _=>False) (fun _ _ _=>False) (fun _ _=>False) (fun _=>False) (fun _ _ k=>k) (fun _=>False) (fun _ _ _ _ _ _ _=>False) (fun _=>False) (fun _ _=>False)
  (fun fn _ _ _ _ k=>Fn.rec (motive:=fun _=>Prop) (fun _=>k) (fun _=>False) (fun _ _=>False) (fun _ _ _ _=>False) (fun _=>False) fn) (fun _=>False) (fun _ _ _ k=>k) (fun _=>False) (fun _ _ _=>False) (fun _ _ _=>False) (fun _ _=>False) (fun _ _ _=>False) () (fun _ _ _ _=>())
def Jr (c : Nat) (v : AV) (k : Bool→Prop) : Prop:=br (Nat.beq (YP v) c) (k true) (ck (Nat.beq (YP v) (Nat.succ c)) (k false))
def WI : Kd→Nat
  | .ptr _=>0
  | .slice _=>2
  | .map _ _=>4
  | .func=>6
  | .iface=>10
  | _=>100
def UB (kd : Kd) (x : Operand) (ρ : Operand→AV) : Bool :=
  match x with
  | .const _=>Nat.beq (YP (ρ x)) (WI kd)
  | _=>false
def obK (o : Option AV) (k : Bool→Prop) : Prop:=op' o fun v=>asB v k
def binK (T : Ty) (op : BinOp) (t : Nat) (x y : Operand) (ρ : Operand→AV) (k : AV→Prop) : Prop :=
  match (T t).kd with
  | .int kk => match op with
    | .add=>asI kk (ρ x) fun a=>asI kk (ρ y) fun b=>fI (Qu kk (Int.add a b)) fun z=>k (.int kk z)
    | .sub=>asI kk (ρ x) fun a=>asI kk (ρ y) fun b=>fI (Qu kk (Int.sub a b)) fun z=>k (.int kk z)
    | .mul=>asI kk (ρ x) fun a=>asI kk (ρ y) fun b=>fI (Qu kk (Int.mul a b)) fun z=>k (.int kk z)
    | .quo=>asI kk (ρ x) fun a=>asI kk (ρ y) fun b=>ck (Bool.not (eqI b 0)) (fI (Qu kk (Int.tdiv a b)) fun z=>k (.int kk z))
    | .rem=>asI kk (ρ x) fun a=>asI kk (ρ y) fun b=>ck (Bool.not (eqI b 0)) (fI (Int.tmod a b) fun z=>k (.int kk z))
    | .eql=>asI kk (ρ x) fun a=>asI kk (ρ y) fun b=>fB (eqI a b) fun c=>k (.bool c)
    | .neq=>asI kk (ρ x) fun a=>asI kk (ρ y) fun b=>fB (Bool.not (eqI a b)) fun c=>k (.bool c)
    | .lss=>asI kk (ρ x) fun a=>asI kk (ρ y) fun b=>fB (ltI a b) fun c=>k (.bool c)
    | .leq=>asI kk (ρ x) fun a=>asI kk (ρ y) fun b=>fB (Bool.not (ltI b a)) fun c=>k (.bool c)
    | .gtr=>asI kk (ρ x) fun a=>asI kk (ρ y) fun b=>fB (ltI b a) fun c=>k (.bool c)
    | .geq=>asI kk (ρ x) fun a=>asI kk (ρ y) fun b=>fB (Bool.not (ltI a b)) fun c=>k (.bool c)
    | .and=>asI kk (ρ x) fun a=>asI kk (ρ y) fun b=>fI (landF kk a b) fun z=>k (.int kk z)
    | .or=>asI kk (ρ x) fun a=>asI kk (ρ y) fun b=>fI (lorF kk a b) fun z=>k (.int kk z)
    | .xor=>asI kk (ρ x) fun a=>asI kk (ρ y) fun b=>fI (lxorF kk a b) fun z=>k (.int kk z)
    | .andNot=>asI kk (ρ x) fun a=>asI kk (ρ y) fun b=>fI (landnF kk a b) fun z=>k (.int kk z)
    | .shl=>asI kk (ρ x) fun a=>Vr (ρ y) fun n=>fI (shlF kk a n) fun z=>k (.int kk z)
    | .shr=>asI kk (ρ x) fun a=>Vr (ρ y) fun n=>fI (Dz a (Gr n kk.bits)) fun z=>k (.int kk z)
  | .str => match op with
    | .add=>asS (ρ x) fun a=>asS (ρ y) fun b=>ck (Nat.ble (Nat.add a.len b.len) 9223372036854775807) (fS (a.cat b) fun s=>k (.str s))
    | .eql=>asS (ρ x) fun a=>asS (ρ y) fun b=>fB (a.beq b) fun c=>k (.bool c)
    | .neq=>asS (ρ x) fun a=>asS (ρ y) fun b=>fB (Bool.not (a.beq b)) fun c=>k (.bool c)
    | .lss=>asS (ρ x) fun a=>asS (ρ y) fun b=>fB (a.lt b) fun c=>k (.bool c)
    | .leq=>asS (ρ x) fun a=>asS (ρ y) fun b=>fB (Bool.not (b.lt a)) fun c=>k (.bool c)
    | .gtr=>asS (ρ x) fun a=>asS (ρ y) fun b=>fB (b.lt a) fun c=>k (.bool c)
    | .geq=>asS (ρ x) fun a=>asS (ρ y) fun b=>fB (Bool.not (a.lt b)) fun c=>k (.bool c)
    | _=>False
  | .bool => match op with
    | .eql=>asB (ρ x) fun a=>asB (ρ y) fun b=>fB (Bool.rec (Bool.not b) b a) fun c=>k (.bool c)
    | .neq=>asB (ρ x) fun a=>asB (ρ y) fun b=>fB (Bool.not (Bool.rec (Bool.not b) b a)) fun c=>k (.bool c)
    | _=>False
  | kd => match op with
    | .eql => match UB kd y ρ with
      | true=>Jr (WI kd) (ρ x) fun c=>k (.bool c)
      | false => match UB kd x ρ with
        | true=>Jr (WI kd) (ρ y) fun c=>k (.bool c)
        | false=>obK (Wt T .eql t (Wh x || Wh y) (ρ x) (ρ y)) fun c=>k (.bool c)
    | .neq => match UB kd y ρ with
      | true=>Jr (WI kd) (ρ x) fun c=>fB (Bool.not c) fun c=>k (.bool c)
      | false => match UB kd x ρ with
        | true=>Jr (WI kd) (ρ y) fun c=>fB (Bool.not c) fun c=>k (.bool c)
        | false=>obK (Wt T .neq t (Wh x || Wh y) (ρ x) (ρ y)) fun c=>k (.bool c)
    | _=>False
def faK (off : Nat) (p : AV) (k : AV→Prop) : Prop:=QaY p (fun id o=>fN (Nat.add o off) fun o=>k (.ptr id o)) fun id o=>fN (Nat.add o off) fun o=>k (.glob id o)
def QbQ (kd : Kd) (size off : Nat) (cs : List AV) (k : AV→Prop) : Prop :=
  match kd.agg with
  | true=>op' (Z1 size (Yg off cs)) fun l=>k (.agg l)
  | false=>op' (Zd cs off) fun v=>V2 kd v k
def ixK (size : Nat) (s i : AV) (k : AV→Prop) : Prop:=JJ s False fun id off len _ _ _=>Vr i fun i=>ck (Nat.blt i len) (fN (Nat.add off (Nat.mul i size)) fun o=>k (.ptr id o))
def ixaK (n size : Nat) (p i : AV) (k : AV→Prop) : Prop:=QaY p (fun id off=>Vr i fun i=>ck (Nat.blt i n) (fN (Nat.add off (Nat.mul i size)) fun o=>k (.ptr id o))) fun id off=>Vr i fun i=>ck (Nat.blt i n) (fN (Nat.add off (Nat.mul i size)) fun o=>k (.glob id o))
def NF (s i : AV) (k : Int→Prop) : Prop:=asS s fun s=>Vr i fun i=>ck (Nat.blt i s.len) (fN (s.get i) fun c=>k (Int.ofNat c))
def Gu (d : Nat) (x : Option AV) (k : Nat→Prop) : Prop :=
  match x with
  | none=>k d
  | some v=>Vr v k
def subK (s : AV) (lo hi : Option AV) (k : Str→Prop) : Prop:=asS s fun s=>Gu 0 lo fun l=>Gu s.len hi fun u=>ck (Nat.ble u s.len) (ck (Nat.ble l u) (fS (s.sub l u) k))
def slK (size : Nat) (v : AV) (lo hi : Option AV) (k : AV→Prop) : Prop :=
  JJ v (Gu 0 lo fun l=>Gu 0 hi fun u=>ck (Nat.beq l 0) (ck (Nat.beq u 0) (k .nils))) fun id off len cap es ex=>
    Gu 0 lo fun l=>Gu len hi fun u=>ck (Nat.ble u cap) (ck (Nat.ble l u) (ck (Nat.beq es size) (br (Nat.beq cap l)
      (fN (Nat.sub u l) fun n=>k (.slice id off n 0 es ex))
      (fN (Nat.add off (Nat.mul l size)) fun o=>fN (Nat.sub u l) fun n=>fN (Nat.sub cap l) fun c=>k (.slice id o n c es ex)))))
def Ui (T : Ty) (ρ : Operand→AV) (place : Nat→Option (Nat × Nat)) : List (Nat × Operand)→List AV→(List AV→Prop)→Prop
  | [],cs,k=>k cs
  | (i, x) :: r, cs, k => match place i with
    | some (off, t) => match (T t).kd.agg with
      | true=>asAgg (ρ x) fun xs=>ck (Nat.beq xs.length (T t).size) (op' (Qy off xs cs) fun cs=>Ui T ρ place r cs k)
      | false => match Nat.beq 1 (T t).size with
        | true => match (T t).kd with
          | .bool=>asB (ρ x) fun v=>op' (Qy off [.bool v] cs) fun cs=>Ui T ρ place r cs k
          | .int kk=>asI kk (ρ x) fun v=>op' (Qy off [.int kk v] cs) fun cs=>Ui T ρ place r cs k
          | .str=>asS (ρ x) fun v=>op' (Qy off [.str v] cs) fun cs=>Ui T ρ place r cs k
          | _=>ck (ZQ (ρ x)) (op' (Qy off [ρ x] cs) fun cs=>Ui T ρ place r cs k)
        | false=>False
    | none=>False
def Qaz (T : Ty) (fs : List (Nat × Nat)) (i : Nat) : Option (Nat × Nat) :=
  match fs[i]? with
  | some (off, t) => match (T t).kd.known with
    | true=>some (off,t)
    | false=>none
  | none=>none
def QeK (T : Ty) (e : Nat) (i : Nat) : Option (Nat × Nat):=some (Nat.mul i (T e).size,e)
def DW {α : Type} (a b : List α) (k : List α→Prop) : Prop:=List.rec (motive:=fun _=>(List α→Prop)→Prop) (fun k=>k b) (fun x _ ih k=>ih fun r=>k (x :: r)) a k
theorem DV {α : Type} (a b : List α) (k : List α→Prop) : DW a b k = k (DX a b):=by
  induction a generalizing k with
  | nil=>rfl
  | cons x a ih=>show (DW a b fun r=>k (x :: r)) = _; rw [ih]; rfl
def Ua (v : AV) (h : H) (k : Str→Prop) : Prop:=JJ v (k ⟨0,0⟩) fun id off len _ _ _=>Zp (h.get id) (fun _ _ _=>False) fun _ _ _ s=>fN (Nat.add off len) fun e=>ck (Nat.ble e s.len) (fS (s.sub off e) k)
def ldK (T : Ty) (t : Nat) (p : AV) (h : H) (k : AV→Prop) : Prop :=
  match (T t).kd with
  | .bool=>ldB p h fun b=>k (.bool b)
  | .int kk=>ldI kk p h fun n=>k (.int kk n)
  | .str=>ldS p h fun s=>k (.str s)
  | .struct _=>ldN (T t).size p h fun l=>k (.agg l)
  | .arr _ _=>ldN (T t).size p h fun l=>k (.agg l)
  | .other=>False
  | _=>ldV p h k
def stK (T : Ty) (t : Nat) (p x : AV) (h : H) (k : H→Prop) : Prop :=
  match (T t).kd.known && Nat.ble 0 (T t).size with
  | true => match (T t).kd.agg with
    | true=>asAgg x fun xs=>stN (T t).size p xs h k
    | false => match Nat.beq 1 (T t).size with
      | true=>stV p x h k
      | false=>False
  | false=>False
def QdE (kd : Kd) (x : AV) (h : H) (k : Str→Prop) : Prop :=
  match kd with
  | .str=>asS x k
  | _=>Ua x h k
def Qdg (size : Nat) (x : AV) (h : H) (k : Nat→List AV→Prop) : Prop:=JJ x (k 0 []) fun id off len _ _ _=>Zp (h.get id) (fun _ _ cs=>op' (Z1 (Nat.mul len size) (Yg off cs)) fun l=>k len l) fun _ _ _ _=>False
def apB (kd : Kd) (e : Nat) (s x : AV) (h : H) (k : AV→H→Prop) : Prop:=QdE kd x h fun src=>
  JJ s (br (Nat.beq src.len 0) (k .nils h) (ck (Nat.ble src.len QR) (Qs (.bytes e 0 false src) h fun i h'=>k (.slice i 0 src.len src.len 1 false) h')))
    fun id off len cap es ex => Zp (h.get id) (fun _ _ _ => False) fun t fz sg str => fN (Nat.add len src.len) fun need => fN (Nat.add off len) fun ol => br (Nat.ble need cap)
      (br (Nat.beq src.len 0) (k (.slice id off len cap es ex) h) (ck (Nat.ble (Nat.add off need) str.len) (ck (Nat.ble fz ol)
        (fS (Str.cat (Str.cat (str.sub 0 ol) src) (str.sub (Nat.add off need) str.len)) fun s'=>ZL id (.bytes t fz sg s') h fun h'=>k (.slice id off need cap es ex) h'))))
      (ck (Nat.ble need QR) (ck (Nat.ble ol str.len) (fS (Str.cat (str.sub off ol) src) fun s'=>br ex
        (Qs (.bytes e 0 false s') h fun i h'=>k (.slice i 0 need need 1 false) h')
        (ck (Nat.beq es 1) (ck (Nat.beq t e) (ck (br' (Nat.blt 0 cap) (Nat.ble fz ol) (Nat.beq fz 0)) (ZL id .dead h fun h1=>Qs (.bytes e (G8 fz off) sg s') h1 fun i h'=>k (.slice i 0 need need 1 false) h')))))))
where
  br' (c a b : Bool) : Bool:=Bool.rec (motive:=fun _=>Bool) b a c
def apC (e size bytes : Nat) (s x : AV) (h : H) (k : AV→H→Prop) : Prop:=Qdg size x h fun n src=>
  JJ s (br (Nat.beq n 0) (k .nils h) (ck (Nat.ble (Nat.mul n bytes) QR) (Qs (.cells false e src) h fun i h'=>k (.slice i 0 n n size false) h')))
    fun id off len cap es ex => Zp (h.get id) (fun mv t cs => fN (Nat.add len n) fun need => br (Nat.ble need cap)
      (br (Nat.beq n 0) (k (.slice id off len cap es ex) h) (ck (ZN src) (op' (Qy (Nat.add off (Nat.mul len size)) src cs) fun cs'=>ZL id (.cells mv t cs') h fun h'=>k (.slice id off need cap es ex) h')))
      (ck (Nat.ble (Nat.mul need bytes) QR) (op' (Z1 (Nat.mul len size) (Yg off cs)) fun old=>DW old src fun new=>br ex
        (Qs (.cells false e new) h fun i h'=>k (.slice i 0 need need size false) h')
        (ck (Nat.beq es size) (ck (Nat.beq t e) (ck (ZN src) (ZL id .dead h fun h1=>Qs (.cells true e new) h1 fun i h'=>k (.slice i 0 need need size false) h')))))))
      fun _ _ _ _=>False
def Wm (T : Ty) (k : Nat) (m i v : AV) (h : H) : Option (Nat × Blk) :=
  match m with
  | .map id => match h.get id with
    | .amap es clock => match (T k).kd.scalar with
      | true => match WP (T k).kd i es 0 with
        | some (some (j,_,n))=>some (id,.amap (XS es j (i,v,n)) clock)
        | some none=>some (id,.amap (DX es [(i,v,clock)]) (Nat.succ clock))
        | none=>none
      | false=>none
    | .smap es => match (T k).kd.scalar with
      | true => match ZH (T k).kd i es with
        | some (some _)=>some (id,.smap (VZ (T k).kd i v es))
        | some none=>some (id,.smap (UQ (i,v) es))
        | none=>none
      | false=>none
    | _=>none
  | _=>none
def Jt (T : Ty) (k : Nat) (m i : AV) (h : H) : Option (Option (Nat × Blk)) :=
  match (T k).kd.scalar with
  | true => match m with
    | .nilm=>some none
    | .map id => match h.get id with
      | .amap es clock => match WP (T k).kd i es 0 with
        | some (some (j,_,_))=>some (some (id,.amap (QeY j es) clock))
        | some none=>some (some (id,.amap es clock))
        | none=>none
      | .smap es => match ZH (T k).kd i es with
        | some (some _)=>some (some (id,.smap (Da (T k).kd i es)))
        | some none=>some (some (id,.smap es))
        | none=>none
      | _=>none
    | _=>none
  | false=>none
def Nd (G : Gam) (f : AV) (args : List AV) (h : H) (k : AV→H→Prop) : Prop :=
  match f with
  | .func (.func g) first captured=>G.fn g (first ++ (args ++ captured)) h k
  | .yield id=>JV G id args h k
  | _=>False
def opF (T : Ty) (G : Gam) (ty : Nat) (o : Op) (ρ : Operand→AV) (h : H) (k : AV→H→Prop) : Prop :=
  match o with
  | .move x=>k (ρ x) h
  | .assign x=>k (ρ x) h
  | .pick c a b=>QeL (T ty).kd (ρ c) (ρ a) (ρ b) fun v=>k v h
  | .nilCheck x=>Za (ρ x) (k (ρ x) h)
  | .binOp op t x y _=>binK T op t x y ρ fun v=>k v h
  | .unOp op _ x => match op with
    | .not=>asB (ρ x) fun b=>fB (Bool.not b) fun b=>k (.bool b) h
    | op=>op' (aUn op (ρ x)) fun v=>V2 (T ty).kd v fun v=>k v h
  | .convert s d x => match (T s).kd, (T d).kd with
    | .int k1,.int k2=>asI k1 (ρ x) fun n=>fI (Qu k2 n) fun z=>k (.int k2 z) h
    | .str,.str=>asS (ρ x) fun s=>k (.str s) h
    | .slice e, .str => match (T e).kd.isU8 with
      | true=>Ua (ρ x) h fun s=>k (.str s) h
      | false=>False
    | .str, .slice e => match (T e).kd.isU8 with
      | true=>asS (ρ x) fun s=>Qs (.bytes e 0 true s) h fun n h'=>k (.slice n 0 s.len s.len 1 false) h'
      | false=>False
    | _,_=>opX T G (.convert s d x) ρ h k
  | .fieldAddr t x f => match UJ T t f with
    | some (off,_)=>faK off (ρ x) fun v=>k v h
    | none=>False
  | .field t x f => match UJ T t f with
    | some (off,ft)=>asAgg (ρ x) fun cs=>QbQ (T ft).kd (T ft).size off cs fun v=>k v h
    | none=>False
  | .indexAddr t x i => match (T t).kd with
    | .slice e => match (T e).kd.known with
      | true=>ixK (T e).size (ρ x) (ρ i) fun v=>k v h
      | false=>False
    | .arr n e => match (T e).kd.known with
      | true=>ixaK n (T e).size (ρ x) (ρ i) fun v=>k v h
      | false=>False
    | _=>False
  | .index t x i => match (T t).kd with
    | .str=>NF (ρ x) (ρ i) fun n=>k (.int .u8 n) h
    | .arr n e => match (T e).kd.known with
      | true=>asAgg (ρ x) fun cs=>Vr (ρ i) fun i=>ck (Nat.blt i n) (fN (Nat.mul i (T e).size) fun o=>QbQ (T e).kd (T e).size o cs fun v=>k v h)
      | false=>False
    | _=>False
  | .slice t x lo hi none => match (T t).kd with
    | .str=>subK (ρ x) (lo.map ρ) (hi.map ρ) fun s=>k (.str s) h
    | .slice e => match (T e).kd.known with
      | true=>slK (T e).size (ρ x) (lo.map ρ) (hi.map ρ) fun v=>k v h
      | false=>False
    | _=>False
  | .extract x i=>asTup (ρ x) fun vs=>op' (Zd vs i) fun v=>V2 (T ty).kd v fun v=>k v h
  | .build t ps => match (T t).kd with
    | .struct fs => match fs.all (fun p => (T p.2).kd.known) with
      | true=>Ui T ρ (Qaz T fs) ps.toList (T t).zero fun cs=>k (.agg cs) h
      | false=>False
    | .arr _ e => match (T e).kd.known with
      | true=>Ui T ρ (QeK T e) ps.toList (T t).zero fun cs=>k (.agg cs) h
      | false=>False
    | _=>False
  | .load t a=>ldK T t (ρ a) h fun v=>k v h
  | .store t a x=>stK T t (ρ a) (ρ x) h (k .junk)
  | .alloc e => match (T e).kd.known with
    | true=>Qs (.cells false e (T e).zero) h fun n h'=>k (.ptr n 0) h'
    | false=>False
  | .box e x => match (T e).kd.agg with
    | true=>asAgg (ρ x) fun cs=>Qs (.cells false e cs) h fun n h'=>k (.ptr n 0) h'
    | false=>ck (ZQ (ρ x)) (Qs (.cells false e [ρ x]) h fun n h'=>k (.ptr n 0) h')
  | .buildSlice t n ps => match (T t).kd with
    | .slice e => match XB T e && Nat.ble 0 n && Nat.ble (Nat.mul n (T e).size) 16777216 with
      | true=>Ui T ρ (QeK T e) ps.toList (VH n (T e).zero) fun cs=>op' (UX (T e).kd.isU8 e cs) fun b=>Qs b h fun i h'=>k (.slice i 0 n n (T e).size true) h'
      | false=>False
    | _=>False
  | .makeSlice t l c=>op' (opA T (.makeSlice t l c) ρ) fun p=>Qs p.1 h fun n h'=>k (p.2 n) h'
  | .lookup t x i ok => match (T t).kd with
    | .map kt e=>op' (Zf T kt e ok (ρ x) (ρ i) h) fun v=>V2 (T ty).kd v fun v=>k v h
    | _=>False
  | .mapUpdate t m i v => match (T t).kd with
    | .map kt _=>op' (Wm T kt (ρ m) (ρ i) (ρ v) h) fun p=>ZL p.1 p.2 h (k .junk)
    | _=>False
  | .makeMap _ none=>Qs (.smap []) h fun n h'=>k (.map n) h'
  | .range t x => match (T t).kd with
    | .map _ _=>Z9 (ρ x) h k
    | _=>False
  | .next i false=>YV (ρ i) h k
  | .call { callee := .builtin .len, args, argTypes } => match args.toList, argTypes.toList with
    | [x], [t] => match (T t).kd with
      | .str=>asS (ρ x) fun s=>k (.int .i64 (Int.ofNat s.len)) h
      | .slice _=>JJ (ρ x) (k (.int .i64 (Int.ofNat 0)) h) fun _ _ len _ _ _=>k (.int .i64 (Int.ofNat len)) h
      | .map _ _=>op' (JP (ρ x) h) fun v=>k v h
      | _=>False
    | _,_=>False
  | .call { callee := .builtin .append, args, argTypes } => match args.toList, argTypes.toList with
    | [s, x], [t, t2] => match (T t).kd with
      | .slice e => match XB T e && Vz (T t2).kd with
        | true => match (T e).kd.isU8 && Nat.beq (T e).size 1 && Nat.beq (T e).bytes 1 with
          | true=>apB (T t2).kd e (ρ s) (ρ x) h k
          | false=>apC e (T e).size (T e).bytes (ρ s) (ρ x) h k
        | false=>False
      | _=>False
    | _,_=>False
  | .call { callee := .builtin .delete, args, argTypes } => match args.toList, argTypes.toList with
    | [m, i], [t, _] => match (T t).kd with
      | .map kt _ => op' (Jt T kt (ρ m) (ρ i) h) fun p => match p with
        | some q=>ZL q.1 q.2 h (k (.tuple []))
        | none=>k (.tuple []) h
      | _=>False
    | _,_=>False
  | .call { callee:=.builtin .min,args,argTypes }=>op' (opP T (.call { callee:=.builtin .min,args,argTypes }) ρ) fun v=>V2 (T ty).kd v fun v=>k v h
  | .call { callee:=.builtin .max,args,argTypes }=>op' (opP T (.call { callee:=.builtin .max,args,argTypes }) ρ) fun v=>V2 (T ty).kd v fun v=>k v h
  | .call { callee:=.value f,args,.. }=>Nd G (ρ f) (args.toList.map ρ) h fun v h'=>V2 (T ty).kd v fun v=>k v h'
  | .typeAssert x _ a ok=>op' (Xr T a ok (ρ x)) fun v=>V2 (T ty).kd v fun v=>k v h
  | o=>opX T G o ρ h k
end Go.Am
namespace Go.Am
open Go
theorem pickK_imp {kd : Kd} {c a b : AV} {k : AV→Prop} (h : QeL kd c a b k) : ∃ v,Qdd c a b = some v ∧ k v:=by
  have fin : ∀ {b' : Bool} {P1 P2 : Prop},c = .bool b'→br b' P1 P2→(P1→k a)→(P2→k b)→∃ v,Qdd c a b = some v ∧ k v:=fun hc g h1 h2=>by
    rw [Zt] at g
    rcases g with ⟨rfl,g⟩ | ⟨rfl,g⟩
    · exact ⟨a,by rw [hc]; rfl,h1 g⟩
    · exact ⟨b,by rw [hc]; rfl,h2 g⟩
  unfold QeL at h
  split at h
  · unfold Qo at h; rw [Zr] at h; obtain ⟨b', hc, h⟩ := h
    exact fin hc h (fun g=>by rw [Zr] at g; obtain ⟨_,e,g⟩:=g; rw [e]; exact g) (fun g=>by rw [Zr] at g; obtain ⟨_,e,g⟩:=g; rw [e]; exact g)
  · unfold QbP at h; rw [Zr] at h; obtain ⟨b', hc, h⟩ := h
    exact fin hc h (fun g=>by rw [QD] at g; obtain ⟨_,e,g⟩:=g; rw [e]; exact g) (fun g=>by rw [QD] at g; obtain ⟨_,e,g⟩:=g; rw [e]; exact g)
  · unfold QbO at h; rw [Zr] at h; obtain ⟨b', hc, h⟩ := h
    exact fin hc h (fun g=>by rw [QI] at g; obtain ⟨_,e,g⟩:=g; rw [e]; exact g) (fun g=>by rw [QI] at g; obtain ⟨_,e,g⟩:=g; rw [e]; exact g)
  · unfold QbN at h; rw [Zr] at h; obtain ⟨b', hc, h⟩ := h
    exact fin hc h id id
theorem okNil_imp {v : AV} {k : Prop} (h : Za v k) : Ku v = some v ∧ k:=by
  cases v with
  | func fn a b=>cases fn <;> first | exact ⟨rfl,h⟩ | exact h.elim
  | ptr=>exact ⟨rfl,h⟩
  | iface=>exact ⟨rfl,h⟩
  | _=>exact h.elim
theorem binInt {T : Ty} {op : BinOp} {t : Nat} {con : Bool} {kk : IntKind} {a b : Int} (h1 : op ≠ .shl) (h2 : op ≠ .shr) : Wt T op t con (.int kk a) (.int kk b) = QaU op kk a b:=by
  have hk : keq kk kk = true:=W1.2 rfl
  cases op <;> first | exact absurd rfl h1 | exact absurd rfl h2 | (simp [Wt,hk])
theorem binStr {T : Ty} {op : BinOp} {t : Nat} {con : Bool} {a b : Str} : Wt T op t con (.str a) (.str b) = Qaf op a b:=by
  cases op <;> rfl
theorem YY {kd : Kd} {v : AV} (h : YP v = WI kd) : (v = .nilp ∧ ∃ e,kd = .ptr e) ∨ (v = .nils ∧ ∃ e,kd = .slice e) ∨ (v = .nilm ∧ ∃ a b,kd = .map a b) ∨ (v = .nilf ∧ kd = .func) ∨ (v = .nili ∧ kd = .iface):=by
  cases kd <;> cases v <;> simp [YP,WI] at h ⊢
theorem XN {kd : Kd} {v : AV} (h : YP v = Nat.succ (WI kd)) : (∃ i o,v = .ptr i o) ∧ (∃ e,kd = .ptr e) ∨ (∃ a b c d e f,v = .slice a b c d e f) ∧ (∃ e,kd = .slice e) ∨ (∃ i,v = .map i) ∧ (∃ a b,kd = .map a b) ∨ (∃ a b c,v = .func a b c) ∧ kd = .func ∨ (∃ a b,v = .iface a b) ∧ kd = .iface:=by
  cases kd <;> cases v <;> simp [YP,WI] at h ⊢
theorem QfE {T : Ty} {t : Nat} {a b : AV} {k : Bool→Prop} (hb : YP b = WI (T t).kd) (h : Jr (WI (T t).kd) a k) : ∃ c,Yk T 20 t a b = some c ∧ k c:=by
  unfold Jr at h
  rw [Zt] at h
  rcases h with ⟨h1,h⟩ | ⟨_,h⟩
  · rw [Nat.beq_eq] at h1
    refine ⟨true,?_,h⟩
    rcases YY hb with ⟨rfl,e,hk⟩ | ⟨rfl,e,hk⟩ | ⟨rfl,e,f,hk⟩ | ⟨rfl,hk⟩ | ⟨rfl,hk⟩ <;> rcases YY h1 with ⟨rfl,e',hk'⟩ | ⟨rfl,e',hk'⟩ | ⟨rfl,e',f',hk'⟩ | ⟨rfl,hk'⟩ | ⟨rfl,hk'⟩ <;>
      first | (rw [hk] at hk'; cases hk'; done) | simp [Yk,hk]
  · rw [Qz, Nat.beq_eq] at h
    obtain ⟨h1,h⟩:=h
    refine ⟨false,?_,h⟩
    rcases YY hb with ⟨rfl,e,hk⟩ | ⟨rfl,e,hk⟩ | ⟨rfl,e,f,hk⟩ | ⟨rfl,hk⟩ | ⟨rfl,hk⟩ <;> rcases XN h1 with ⟨⟨_,_,rfl⟩,e',hk'⟩ | ⟨⟨_,_,_,_,_,_,rfl⟩,e',hk'⟩ | ⟨⟨_,rfl⟩,e',f',hk'⟩ | ⟨⟨_,_,_,rfl⟩,hk'⟩ | ⟨⟨_,_,rfl⟩,hk'⟩ <;>
      first | (rw [hk] at hk'; cases hk'; done) | simp [Yk,hk]
theorem QfF {T : Ty} {t : Nat} {a b : AV} {k : Bool→Prop} (hb : YP b = WI (T t).kd) (h : Jr (WI (T t).kd) a k) : ∃ c,Yk T 20 t b a = some c ∧ k c:=by
  unfold Jr at h
  rw [Zt] at h
  rcases h with ⟨h1,h⟩ | ⟨_,h⟩
  · rw [Nat.beq_eq] at h1
    refine ⟨true,?_,h⟩
    rcases YY hb with ⟨rfl,e,hk⟩ | ⟨rfl,e,hk⟩ | ⟨rfl,e,f,hk⟩ | ⟨rfl,hk⟩ | ⟨rfl,hk⟩ <;> rcases YY h1 with ⟨rfl,e',hk'⟩ | ⟨rfl,e',hk'⟩ | ⟨rfl,e',f',hk'⟩ | ⟨rfl,hk'⟩ | ⟨rfl,hk'⟩ <;>
      first | (rw [hk] at hk'; cases hk'; done) | simp [Yk,hk]
  · rw [Qz, Nat.beq_eq] at h
    obtain ⟨h1,h⟩:=h
    refine ⟨false,?_,h⟩
    rcases YY hb with ⟨rfl,e,hk⟩ | ⟨rfl,e,hk⟩ | ⟨rfl,e,f,hk⟩ | ⟨rfl,hk⟩ | ⟨rfl,hk⟩ <;> rcases XN h1 with ⟨⟨_,_,rfl⟩,e',hk'⟩ | ⟨⟨_,_,_,_,_,_,rfl⟩,e',hk'⟩ | ⟨⟨_,rfl⟩,e',f',hk'⟩ | ⟨⟨_,_,_,rfl⟩,hk'⟩ | ⟨⟨_,_,rfl⟩,hk'⟩ <;>
      first | (rw [hk] at hk'; cases hk'; done) | simp [Yk,hk]
theorem Dh {T : Ty} {t : Nat} {a b : AV} {c : Bool} (h : Yk T 20 t a b = some c) (hn : ∀ kk x kk' y,a = .int kk x→b = .int kk' y→False) (hs : ∀ x y,a = .str x→b = .str y→False) (con : Bool) (hc : a = .nili→b = .nili→con = true) : Wt T .eql t con a b = some (.bool c):=by
  unfold Wt
  split <;> first | contradiction | skip
  · exact (hn _ _ _ _ rfl rfl).elim
  · exact (hs _ _ rfl rfl).elim
  · rw [hc rfl rfl]; simp [h]
  · simp [h]
theorem Dg {T : Ty} {t : Nat} {a b : AV} {c : Bool} (h : Yk T 20 t a b = some c) (hn : ∀ kk x kk' y,a = .int kk x→b = .int kk' y→False) (hs : ∀ x y,a = .str x→b = .str y→False) (con : Bool) (hc : a = .nili→b = .nili→con = true) : Wt T .neq t con a b = some (.bool (Bool.not c)):=by
  unfold Wt
  split <;> first | contradiction | skip
  · exact (hn _ _ _ _ rfl rfl).elim
  · exact (hs _ _ rfl rfl).elim
  · rw [hc rfl rfl]; simp [h]
  · simp [h]
theorem WY {kd : Kd} {x : Operand} {ρ : Operand→AV} (h : UB kd x ρ = true) : Wh x = true ∧ YP (ρ x) = WI kd:=by
  unfold UB at h
  split at h
  · rw [Nat.beq_eq] at h; exact ⟨rfl,h⟩
  · cases h
theorem K7 {kd : Kd} {v : AV} (h : YP v = WI kd) : (∀ kk x,v ≠ .int kk x) ∧ (∀ x,v ≠ .str x):=by
  rcases YY h with ⟨rfl,_⟩ | ⟨rfl,_⟩ | ⟨rfl,_⟩ | ⟨rfl,_⟩ | ⟨rfl,_⟩ <;> exact ⟨by simp,by simp⟩
theorem int_arith {T : Ty} {op : BinOp} {t : Nat} {con : Bool} {kk : IntKind} {x y : AV} {P : Int→Int→Prop} {k : AV→Prop} (h : asI kk x fun a=>asI kk y fun b=>P a b) (h1 : op ≠ .shl) (h2 : op ≠ .shr)
    (hp : ∀ a b,P a b→∃ r,QaU op kk a b = some r ∧ k r) : ∃ r,Wt T op t con x y = some r ∧ k r:=by
  rw [QD] at h; obtain ⟨a,rfl,h⟩:=h
  rw [QD] at h; obtain ⟨b,rfl,h⟩:=h
  obtain ⟨r,e,hk⟩:=hp a b h
  exact ⟨r,by rw [binInt h1 h2]; exact e,hk⟩
theorem Gy {T : Ty} {op : BinOp} {t : Nat} {con : Bool} {x y : AV} {P : Str→Str→Prop} {k : AV→Prop} (h : asS x fun a=>asS y fun b=>P a b)
    (hp : ∀ a b,P a b→∃ r,Qaf op a b = some r ∧ k r) : ∃ r,Wt T op t con x y = some r ∧ k r:=by
  rw [QI] at h; obtain ⟨a,rfl,h⟩:=h
  rw [QI] at h; obtain ⟨b,rfl,h⟩:=h
  obtain ⟨r,e,hk⟩:=hp a b h
  exact ⟨r,by rw [binStr]; exact e,hk⟩
theorem binK_imp {T : Ty} {op : BinOp} {t : Nat} {x y : Operand} {ρ : Operand → AV} {k : AV → Prop} (h : binK T op t x y ρ k) : ∃ r, Wt T op t (Wh x || Wh y) (ρ x) (ρ y) = some r ∧ k r := by
  unfold binK at h
  split at h
  · rename_i kk hkd
    split at h
    case h_16=>
      rw [QD] at h; obtain ⟨a,ha,h⟩:=h
      rw [ZT] at h; obtain ⟨k2,n,hn,h⟩:=h
      rw [Qn] at h
      refine ⟨_,?_,h⟩
      rw [ha,hn]; unfold shlF; rw [QbU]; rfl
    case h_17=>
      rw [QD] at h; obtain ⟨a,ha,h⟩:=h
      rw [ZT] at h; obtain ⟨k2,n,hn,h⟩:=h
      rw [Qn] at h
      refine ⟨_,?_,h⟩
      rw [ha,hn]; unfold Dz; rw [QbU]; rfl
    all_goals refine int_arith h (by simp) (by simp) fun a b h=>?_
    case h_4 | h_5=>
      rw [Qz,Qn] at h
      obtain ⟨h1,h⟩:=h
      have h1 : eqI b 0 = false:=by simpa using h1
      exact ⟨_,by simp only [QaU,h1],h⟩
    all_goals first
      | (rw [Qn] at h; exact ⟨_,rfl,h⟩)
      | (rw [Qk] at h; exact ⟨_,rfl,h⟩)
  · split at h
    case h_1=>
      refine Gy h fun a b h=>?_
      rw [Qz,Vp] at h
      exact ⟨_,by simp only [Qaf,h.1],h.2⟩
    case h_8=>exact h.elim
    all_goals (refine Gy h fun a b h=>?_; rw [Qk] at h; exact ⟨_,rfl,h⟩)
  · rename_i hkd
    split at h
    · rw [Zr] at h; obtain ⟨a, ha, h⟩ := h
      rw [Zr] at h; obtain ⟨b,hb,h⟩:=h
      rw [Qk] at h
      exact ⟨_,Dh (by rw [ha,hb]; simp [Yk,hkd]) (by rw [ha]; simp) (by rw [ha]; simp) _ (by rw [ha]; simp),h⟩
    · rw [Zr] at h; obtain ⟨a, ha, h⟩ := h
      rw [Zr] at h; obtain ⟨b,hb,h⟩:=h
      rw [Qk] at h
      exact ⟨_,Dg (by rw [ha,hb]; simp [Yk,hkd]) (by rw [ha]; simp) (by rw [ha]; simp) _ (by rw [ha]; simp),h⟩
    · exact h.elim
  · have ob : ∀ {o : Option AV}, (obK o fun c => k (.bool c)) → ∃ r, o = some r ∧ k r := fun h => by
      unfold obK at h
      rw [QF] at h; obtain ⟨v,hv,h⟩:=h
      rw [Zr] at h; obtain ⟨c,rfl,h⟩:=h
      exact ⟨_,hv,h⟩
    split at h
    · split at h
      · rename_i hs
        obtain ⟨hc,hn⟩:=WY hs
        obtain ⟨c,he,h⟩:=QfE hn h
        obtain ⟨n1,n2⟩:=K7 hn
        exact ⟨_,Dh he (fun _ _ _ _ _ h=>n1 _ _ h) (fun _ _ _ h=>n2 _ h) _ (fun _ _=>by rw [hc]; simp),h⟩
      · split at h
        · rename_i hs
          obtain ⟨hc,hn⟩:=WY hs
          obtain ⟨c,he,h⟩:=QfF hn h
          obtain ⟨n1,n2⟩:=K7 hn
          exact ⟨_,Dh he (fun _ _ _ _ h _=>n1 _ _ h) (fun _ _ h _=>n2 _ h) _ (fun _ _=>by rw [hc]; simp),h⟩
        · exact ob h
    · split at h
      · rename_i hs
        obtain ⟨hc,hn⟩:=WY hs
        obtain ⟨c,he,h⟩:=QfE hn h
        rw [Qk] at h
        obtain ⟨n1,n2⟩:=K7 hn
        exact ⟨_,Dg he (fun _ _ _ _ _ h=>n1 _ _ h) (fun _ _ _ h=>n2 _ h) _ (fun _ _=>by rw [hc]; simp),h⟩
      · split at h
        · rename_i hs
          obtain ⟨hc,hn⟩:=WY hs
          obtain ⟨c,he,h⟩:=QfF hn h
          rw [Qk] at h
          obtain ⟨n1,n2⟩:=K7 hn
          exact ⟨_,Dg he (fun _ _ _ _ h _=>n1 _ _ h) (fun _ _ h _=>n2 _ h) _ (fun _ _=>by rw [hc]; simp),h⟩
        · exact ob h
    · exact h.elim
theorem faK_imp {off : Nat} {p : AV} {k : AV→Prop} (h : faK off p k) : ∃ r,VY off p = some r ∧ k r:=by
  unfold faK at h
  rw [WK] at h
  rcases h with ⟨i,o,rfl,h⟩ | ⟨i,o,rfl,h⟩ <;> (rw [Zk] at h; exact ⟨_,rfl,h⟩)
theorem GF {kd : Kd} {size off : Nat} {cs : List AV} {k : AV→Prop} (h : QbQ kd size off cs k) : ∃ r,KQ kd.agg size off cs = some r ∧ k r:=by
  unfold QbQ at h
  unfold KQ
  split at h
  · rename_i ha
    rw [QF] at h; obtain ⟨l,hl,h⟩:=h
    rw [ha]; exact ⟨_,by simp only [hl],h⟩
  · rename_i ha
    rw [QF] at h; obtain ⟨v,hv,h⟩:=h
    rw [ha]; exact ⟨_,hv,Yt h⟩
theorem ixK_imp {size : Nat} {s i : AV} {k : AV→Prop} (h : ixK size s i k) : ∃ r,WN size s i = some r ∧ k r:=by
  unfold ixK at h
  rw [ZS] at h
  rcases h with ⟨_,h⟩ | ⟨id,off,len,c,e,x,rfl,h⟩
  · exact h.elim
  · rw [ZT] at h; obtain ⟨kk, n, rfl, h⟩ := h
    rw [Qz,Zk] at h
    exact ⟨_,by simp only [WN,h.1,seqN_eq],h.2⟩
theorem ixaK_imp {n size : Nat} {s i : AV} {k : AV→Prop} (h : ixaK n size s i k) : ∃ r,YC n size s i = some r ∧ k r:=by
  unfold ixaK at h
  rw [WK] at h
  rcases h with ⟨id,off,rfl,h⟩ | ⟨id,off,rfl,h⟩ <;> (
    rw [ZT] at h; obtain ⟨kk,m,rfl,h⟩:=h
    rw [Qz,Zk] at h
    exact ⟨_,by simp only [YC,h.1,seqN_eq],h.2⟩)
theorem ixsK_imp {s i : AV} {k : Int→Prop} (h : NF s i k) : ∃ n,Vv s i = some (.int .u8 n) ∧ k n:=by
  unfold NF at h
  rw [QI] at h; obtain ⟨s,rfl,h⟩:=h
  rw [ZT] at h; obtain ⟨kk,n,rfl,h⟩:=h
  rw [Qz,Zk] at h
  exact ⟨_,by simp only [Vv,h.1,seqN_eq],h.2⟩
theorem Vq {d : Nat} {x : Option AV} {k : Nat→Prop} (h : Gu d x k) : ∃ n,bnd d x = some n ∧ k n:=by
  unfold Gu at h
  split at h
  · exact ⟨d,rfl,h⟩
  · rw [ZT] at h; obtain ⟨kk,n,rfl,h⟩:=h; exact ⟨n,rfl,h⟩
theorem subK_imp {s : AV} {lo hi : Option AV} {k : Str→Prop} (h : subK s lo hi k) : ∃ r,Vt s lo hi = some (.str r) ∧ k r:=by
  unfold subK at h
  rw [QI] at h; obtain ⟨s,rfl,h⟩:=h
  obtain ⟨l,h1,h⟩:=Vq h
  obtain ⟨u,h2,h⟩:=Vq h
  rw [Qz,Qz,Vp] at h
  exact ⟨_,by simp only [Vt,h1,h2,h.1,h.2.1],h.2.2⟩
theorem slK_imp {size : Nat} {v : AV} {lo hi : Option AV} {k : AV→Prop} (h : slK size v lo hi k) : ∃ r,WM size v lo hi none = some r ∧ k r:=by
  unfold slK at h
  rw [ZS] at h
  rcases h with ⟨rfl,h⟩ | ⟨id,off,len,cap,es,ex,rfl,h⟩
  · obtain ⟨l, h1, h⟩ := Vq h
    obtain ⟨u,h2,h⟩:=Vq h
    rw [Qz,Qz,Nat.beq_eq,Nat.beq_eq] at h
    obtain ⟨rfl,rfl,h⟩:=h
    exact ⟨.nils,by simp only [WM,h1,h2],h⟩
  · obtain ⟨l, h1, h⟩ := Vq h
    obtain ⟨u,h2,h⟩:=Vq h
    rw [Qz,Qz,Qz,Zt] at h
    obtain ⟨c1,c2,c3,h⟩:=h
    rcases h with ⟨c4,h⟩ | ⟨c4,h⟩
    · rw [Zk] at h
      exact ⟨_,by simp only [WM,h1,h2,c1,c2,c3,c4,seqN_eq],h⟩
    · rw [Zk, Zk, Zk] at h
      exact ⟨_,by simp only [WM,h1,h2,c1,c2,c3,c4,seqN_eq],h⟩
theorem UI {T : Ty} {ρ : Operand → AV} {place : Nat → Option (Nat × Nat)} {k : List AV → Prop} : ∀ {ps : List (Nat × Operand)} {cs : List AV}, Ui T ρ place ps cs k →
    ∃ parts cs',(∀ (q : List (Nat × AV)→Option (List (Nat × Nat × AV))),q [] = some []→(∀ i v r,q ((i,v) :: r) = match place i with
        | some (off, t) => match q r with
          | some l=>some ((off,(T t).size,v) :: l)
          | none=>none
        | none=>none)→q (ps.map fun p=>(p.1,ρ p.2)) = some parts) ∧ V3 cs parts = some cs' ∧ k cs'
  | [],cs,h=>⟨[],cs,fun q h0 _=>h0,rfl,h⟩
  | (i, x) :: r, cs, h => by
    unfold Ui at h
    split at h
    · rename_i off t hp
      have fin : ∀ (xs cs1 : List AV),VW (ρ x) = some xs→xs.length = (T t).size→Qy off xs cs = some cs1→Ui T ρ place r cs1 k→∃ parts cs',(∀ (q : List (Nat × AV)→Option (List (Nat × Nat × AV))),q [] = some []→(∀ i v r,q ((i,v) :: r) = match place i with
          | some (off, t) => match q r with
            | some l=>some ((off,(T t).size,v) :: l)
            | none=>none
          | none=>none)→q (((i,x) :: r).map fun p=>(p.1,ρ p.2)) = some parts) ∧ V3 cs parts = some cs' ∧ k cs':=fun xs cs1 h1 h2 h3 h=>by
        obtain ⟨parts,cs',q1,q2,q3⟩:=UI h
        refine ⟨(off,(T t).size,ρ x) :: parts,cs',fun q h0 hs=>?_,?_,q3⟩
        · rw [List.map_cons,hs,hp,q1 q h0 hs]
        · have e : Nat.beq xs.length (T t).size = true := by rw [Nat.beq_eq]; exact h2
          simp only [V3,h1,e,h3]
          exact q2
      split at h
      · rw [asAgg_iff] at h; obtain ⟨xs, hx, h⟩ := h
        rw [Qz,QF,Nat.beq_eq] at h
        obtain ⟨h1,cs1,h2,h⟩:=h
        exact fin xs cs1 (by rw [hx]; rfl) h1 h2 h
      · split at h
        · rename_i hs
          rw [Nat.beq_eq] at hs
          split at h
          · rw [Zr] at h; obtain ⟨v, hv, h⟩ := h
            rw [QF] at h; obtain ⟨cs1,h2,h⟩:=h
            exact fin [.bool v] cs1 (by rw [hv]; rfl) hs h2 h
          · rw [QD] at h; obtain ⟨v, hv, h⟩ := h
            rw [QF] at h; obtain ⟨cs1,h2,h⟩:=h
            exact fin [.int _ v] cs1 (by rw [hv]; rfl) hs h2 h
          · rw [QI] at h; obtain ⟨v, hv, h⟩ := h
            rw [QF] at h; obtain ⟨cs1,h2,h⟩:=h
            exact fin [.str v] cs1 (by rw [hv]; rfl) hs h2 h
          · rw [Qz, QF] at h
            obtain ⟨h1,cs1,h2,h⟩:=h
            exact fin _ cs1 (Jc h1) hs h2 h
        · exact h.elim
    · exact h.elim
theorem DE (T : Ty) (fs : List (Nat × Nat)) : Ww T fs [] = some [] ∧ ∀ i v r,Ww T fs ((i,v) :: r) = match Qaz T fs i with
    | some (off, t) => match Ww T fs r with
      | some l=>some ((off,(T t).size,v) :: l)
      | none=>none
    | none=>none:=by
  refine ⟨rfl,fun i v r=>?_⟩
  rw [Ww]; unfold Qaz
  cases fs[i]? with
  | none=>rfl
  | some p =>
    obtain ⟨off,t⟩:=p
    simp only
    cases (T t).kd.known <;> rfl
theorem toStrK_imp {v : AV} {h : H} {k : Str→Prop} (e : Ua v h k) : ∃ s,Kr v h = some (.str s) ∧ k s:=by
  unfold Ua at e
  rw [ZS] at e
  rcases e with ⟨rfl,e⟩ | ⟨id,off,len,cap,es,ex,rfl,e⟩
  · exact ⟨_,rfl,e⟩
  · rw [Q3] at e
    rcases e with ⟨_,_,_,_,e⟩ | ⟨t,f,g,s,hg,e⟩
    · exact e.elim
    · rw [Zk, Qz, Vp] at e
      exact ⟨_,by simp only [Kr,hg,e.1],e.2⟩
theorem Qb6 {T : Ty} {t : Nat} {p : AV} {h : H} {k : AV→Prop} (e : ldK T t p h k) : ∃ v,(match (T t).kd.known with
    | true => match (T t).kd.agg with
      | true=>ZU (T t).size p h
      | false=>Zl p h
    | false=>none) = some v ∧ k v:=by
  unfold ldK at e
  split at e
  · rename_i hk
    rw [hk]
    obtain ⟨v,h1,e⟩:=K8 e
    rw [Zr] at e; obtain ⟨b,rfl,e⟩:=e
    exact ⟨_,h1,e⟩
  · rename_i hk
    rw [hk]
    obtain ⟨v,h1,e⟩:=K8 e
    rw [QD] at e; obtain ⟨b,rfl,e⟩:=e
    exact ⟨_,h1,e⟩
  · rename_i hk
    rw [hk]
    obtain ⟨v,h1,e⟩:=K8 e
    rw [QI] at e; obtain ⟨b,rfl,e⟩:=e
    exact ⟨_,h1,e⟩
  · rename_i hk
    rw [hk]
    obtain ⟨l,h1,e⟩:=Qb5 e
    exact ⟨_,h1,e⟩
  · rename_i hk
    rw [hk]
    obtain ⟨l,h1,e⟩:=Qb5 e
    exact ⟨_,h1,e⟩
  · exact e.elim
  · rename_i h1 h2 h3 h4 h5 h6
    obtain ⟨v,h7,e⟩:=K8 e
    refine ⟨v,?_,e⟩
    revert h1 h2 h3 h4 h5 h6
    cases (T t).kd <;> intro h1 h2 h3 h4 h5 h6 <;> first
      | exact (h1 rfl).elim | exact (h2 _ rfl).elim | exact (h3 rfl).elim | exact (h4 _ rfl).elim | exact (h5 _ _ rfl).elim | exact (h6 rfl).elim | exact h7
theorem stK_imp {T : Ty} {t : Nat} {p x : AV} {h : H} {k : H → Prop} (e : stK T t p x h k) : ((T t).kd.known && Nat.ble 0 (T t).size) = true ∧ ∃ h', Z6 (T t).size p x h = some h' ∧ k h' := by
  unfold stK at e
  split at e
  · rename_i hc
    refine ⟨hc,?_⟩
    split at e
    · rw [asAgg_iff] at e; obtain ⟨xs, rfl, e⟩ := e
      exact stN_imp e
    · split at e
      · rename_i h1
        rw [Nat.beq_eq] at h1; rw [← h1]; exact stV_imp e
      · exact e.elim
  · exact e.elim
theorem srcB_imp {kd : Kd} {x : AV} {h : H} {k : Str → Prop} (e : QdE kd x h k) : ∃ s, Ni x h = some s ∧ k s := by
  unfold QdE at e
  split at e
  · rw [QI] at e; obtain ⟨s,rfl,e⟩:=e; exact ⟨s,rfl,e⟩
  · unfold Ua at e
    rw [ZS] at e
    rcases e with ⟨rfl,e⟩ | ⟨id,off,len,cap,es,ex,rfl,e⟩
    · exact ⟨_,rfl,e⟩
    · rw [Q3] at e
      rcases e with ⟨_,_,_,_,e⟩ | ⟨t,f,g,s,hg,e⟩
      · exact e.elim
      · rw [Zk, Qz, Vp] at e
        exact ⟨_,by simp only [Ni,hg,e.1],e.2⟩
theorem srcC_imp {size : Nat} {x : AV} {h : H} {k : Nat→List AV→Prop} (e : Qdg size x h k) : ∃ n l,Qai size x h = some (n,l) ∧ k n l:=by
  unfold Qdg at e
  rw [ZS] at e
  rcases e with ⟨rfl,e⟩ | ⟨id,off,len,cap,es,ex,rfl,e⟩
  · exact ⟨_,_,rfl,e⟩
  · rw [Q3] at e
    rcases e with ⟨_,_,_,hg,e⟩ | ⟨_,_,_,_,_,e⟩
    · rw [QF] at e; obtain ⟨l, hl, e⟩ := e
      exact ⟨_,_,by simp only [Qai,hg,hl],e⟩
    · exact e.elim
theorem Vu {b : Blk} {n es : Nat} {h h' : H} {i : Nat} (hp : h.push b = some (i,h')) : Wk b n es h = some (.slice i 0 n n es false,h'):=by unfold Wk; simp only [hp]
theorem apB_imp {kd : Kd} {e : Nat} {s x : AV} {h : H} {k : AV → H → Prop} (q : apB kd e s x h k) : op2 (Uu e s x h) k := by
  unfold apB at q
  obtain ⟨src,hs,q1⟩:=srcB_imp q
  clear q; have q:=q1; clear q1
  unfold Uu
  rw [hs]; simp only
  rw [ZS] at q
  rcases q with ⟨rfl,q⟩ | ⟨id,off,len,cap,es,ex,rfl,q⟩
  · rw [Zt] at q
    rcases q with ⟨c,q⟩ | ⟨c,q⟩
    · simp only [c]; exact q
    · rw [Qz, QX] at q
      obtain ⟨c2,i,h',hp,q⟩:=q
      simp only [c,c2,Vu hp]; exact q
  · rw [Q3] at q
    rcases q with ⟨_,_,_,_,q⟩ | ⟨t,fz,sg,str,hg,q⟩
    · exact q.elim
    · rw [Zk, Zk, Zt] at q
      simp only [hg,seqN_eq]
      rcases q with ⟨c,q⟩ | ⟨c,q⟩
      · rw [Zt] at q
        simp only [c]
        rcases q with ⟨c2,q⟩ | ⟨c2,q⟩
        · simp only [c2]; exact q
        · rw [Qz, Qz, Vp, QZ] at q
          obtain ⟨c3,c4,h',hp,q⟩:=q
          simp only [c2,c3,c4,hp]; exact q
      · rw [Qz, Qz, Vp, Zt] at q
        obtain ⟨c2,c3,q⟩:=q
        simp only [c,c2,c3]
        rcases q with ⟨rfl,q⟩ | ⟨rfl,q⟩
        · rw [QX] at q
          obtain ⟨i,h',hp,q⟩:=q
          simp only [Vu hp]; exact q
        · rw [Qz, Qz, Qz, QZ] at q
          obtain ⟨c4,c5,c6,h1,hp1,q⟩:=q
          rw [QX] at q
          obtain ⟨i,h',hp,q⟩:=q
          have c6' : (Bool.rec (Nat.beq fz 0) (Nat.ble fz (Nat.add off len)) (Nat.blt 0 cap) : Bool) = true:=c6
          simp only [c4,c5,c6',hp1,Vu hp]; exact q
theorem apC_imp {e size bytes : Nat} {s x : AV} {h : H} {k : AV → H → Prop} (q : apC e size bytes s x h k) : op2 (Ut e size bytes s x h) k := by
  unfold apC at q
  obtain ⟨n,src,hs,q1⟩:=srcC_imp q
  clear q; have q:=q1; clear q1
  unfold Ut
  rw [hs]; simp only
  rw [ZS] at q
  rcases q with ⟨rfl,q⟩ | ⟨id,off,len,cap,es,ex,rfl,q⟩
  · rw [Zt] at q
    rcases q with ⟨c,q⟩ | ⟨c,q⟩
    · simp only [c]; exact q
    · rw [Qz, QX] at q
      obtain ⟨c2,i,h',hp,q⟩:=q
      simp only [c,c2,Vu hp]; exact q
  · rw [Q3] at q
    rcases q with ⟨mv,t,cs,hg,q⟩ | ⟨_,_,_,_,_,q⟩
    · rw [Zk, Zt] at q
      simp only [hg,seqN_eq]
      rcases q with ⟨c,q⟩ | ⟨c,q⟩
      · rw [Zt] at q
        simp only [c]
        rcases q with ⟨c2,q⟩ | ⟨c2,q⟩
        · simp only [c2]; exact q
        · rw [Qz, VU, QF] at q
          obtain ⟨c3,cs',hl,q⟩:=q
          rw [QZ] at q
          obtain ⟨h',hp,q⟩:=q
          simp only [c2,c3,hl,hp]; exact q
      · rw [Qz, QF] at q
        obtain ⟨c2,old,hl,q⟩:=q
        rw [DV,Zt] at q
        simp only [c,c2,hl]
        rcases q with ⟨rfl,q⟩ | ⟨rfl,q⟩
        · rw [QX] at q
          obtain ⟨i,h',hp,q⟩:=q
          simp only [Vu hp]; exact q
        · rw [Qz, Qz, Qz, VU, QZ] at q
          obtain ⟨c4,c5,c6,h1,hp1,q⟩:=q
          rw [QX] at q
          obtain ⟨i,h',hp,q⟩:=q
          simp only [c4,c5,c6,hp1,Vu hp]; exact q
    · exact q.elim
theorem mapBlk_ok {T : Ty} {kt : Nat} {m i v : AV} {h : H} {k : AV → H → Prop} (q : op' (Wm T kt m i v h) fun p => ZL p.1 p.2 h (k .junk)) : op1 (VX T kt m i v h) k := by
  rw [QF] at q
  obtain ⟨⟨id,b⟩,hp,q⟩:=q
  rw [QZ] at q
  obtain ⟨h',hput,q⟩:=q
  have : VX T kt m i v h = some h':=by
    unfold Wm at hp
    unfold VX
    split at hp
    · split at hp
      · rename_i hg; simp only [hg]
        split at hp
        · rename_i hs; simp only [hs]
          split at hp
          · rename_i hf; injection hp with hp; injection hp with e1 e2; subst e1 e2; simp only [hf]; exact hput
          · rename_i hf; injection hp with hp; injection hp with e1 e2; subst e1 e2; simp only [hf]; exact hput
          · cases hp
        · cases hp
      · rename_i hg; simp only [hg]
        split at hp
        · rename_i hs; simp only [hs]
          split at hp
          · rename_i hf; injection hp with hp; injection hp with e1 e2; subst e1 e2; simp only [hf]; exact hput
          · rename_i hf; injection hp with hp; injection hp with e1 e2; subst e1 e2; simp only [hf]; exact hput
          · cases hp
        · cases hp
      · cases hp
    · cases hp
  rw [this]; exact q
theorem mapBlkD_ok {T : Ty} {kt : Nat} {m i : AV} {h : H} {k : AV → H → Prop} (q : op' (Jt T kt m i h) fun p => match p with
        | some q=>ZL q.1 q.2 h (k (.tuple []))
        | none=>k (.tuple []) h) : ∃ h',JN T kt m i h = some h' ∧ k (.tuple []) h':=by
  rw [QF] at q
  obtain ⟨p,hp,q⟩:=q
  unfold Jt at hp
  unfold JN
  split at hp
  · rename_i hs; simp only [hs]
    split at hp
    · injection hp with hp; subst hp; exact ⟨h,rfl,q⟩
    · split at hp
      · rename_i hg; simp only [hg]
        split at hp
        · rename_i hf; injection hp with hp; subst hp
          simp only [QZ] at q
          obtain ⟨h',h1,h2⟩:=q
          exact ⟨h',by simp only [hf]; exact h1,h2⟩
        · rename_i hf; injection hp with hp; subst hp
          simp only [QZ] at q
          obtain ⟨h',h1,h2⟩:=q
          exact ⟨h',by simp only [hf]; exact h1,h2⟩
        · cases hp
      · rename_i hg; simp only [hg]
        split at hp
        · rename_i hf; injection hp with hp; subst hp
          simp only [QZ] at q
          obtain ⟨h',h1,h2⟩:=q
          exact ⟨h',by simp only [hf]; exact h1,h2⟩
        · rename_i hf; injection hp with hp; subst hp
          simp only [QZ] at q
          obtain ⟨h',h1,h2⟩:=q
          exact ⟨h',by simp only [hf]; exact h1,h2⟩
        · cases hp
      · cases hp
    · cases hp
  · cases hp
section
variable {T : Ty} {G : Gam} {ty : Nat} {ρ : Operand→AV} {h : H} {k : AV→H→Prop}
theorem x0 {o : Op} {v : AV} (hc : opC T o = 0) (hv : opP T o ρ = some v) (hk : k v h) : opX T G o ρ h k:=by unfold opX; rw [hc]; simp only [hv]; exact hk
theorem x1 {o : Op} {v : AV} (hc : opC T o = 1) (hv : opR T o ρ h = some v) (hk : k v h) : opX T G o ρ h k:=by unfold opX; rw [hc]; simp only [hv]; exact hk
theorem x2 {o : Op} {b : Blk} {f : Nat→AV} {n : Nat} {h' : H} (hc : opC T o = 2) (hv : opA T o ρ = some (b,f)) (hp : h.push b = some (n,h')) (hk : k (f n) h') : opX T G o ρ h k:=by
  unfold opX; rw [hc]; simp only [hv,aNew,hp]; exact hk
theorem x3 {o : Op} (hc : opC T o = 3) (hk : opW T G o ρ h k) : opX T G o ρ h k:=by unfold opX; rw [hc]; exact hk
theorem K5 {o : Op} (e : opF T G ty o ρ h k) : ∃ K, opX T G o ρ h K ∧ ∀ r h', K r h' → k r h' := by
  have same : opX T G o ρ h k→∃ K,opX T G o ρ h K ∧ ∀ r h',K r h'→k r h':=fun h=>⟨k,h,fun _ _ h=>h⟩
  unfold opF at e
  split at e
  case h_1 x=>exact same (x0 rfl rfl e)
  case h_2 x=>exact same (x0 rfl rfl e)
  case h_3 c a b=>obtain ⟨v,h1,h2⟩:=pickK_imp e; exact same (x0 rfl h1 h2)
  case h_4 x=>obtain ⟨h1,h2⟩:=okNil_imp e; exact same (x0 rfl h1 h2)
  case h_5 op t x y u=>obtain ⟨v,h1,h2⟩:=binK_imp e; exact same (x0 rfl h1 h2)
  case h_6 op t x=>
    split at e
    · rw [Zr] at e; obtain ⟨b, hb, e⟩ := e
      rw [Qk] at e
      exact same (x0 rfl (by simp only [opP,hb]; rfl) e)
    · rw [QF] at e; obtain ⟨v, hv, e⟩ := e
      exact same (x0 rfl hv (Yt e))
  case h_7 s d x=>
    split at e
    · rename_i k1 k2 hs hd
      rw [QD] at e; obtain ⟨n,hn,e⟩:=e
      rw [Qn] at e
      exact same (x0 (by simp only [opC,hs,hd]) (by simp only [opP,Qde,hs,hd,Kd.known,hn,aInt]) e)
    · rename_i hs hd
      rw [QI] at e; obtain ⟨n,hn,e⟩:=e
      exact same (x0 (by simp only [opC,hs,hd]) (by simp only [opP,Qde,hs,hd,hn]) e)
    · rename_i e' hs hd
      split at e
      · rename_i hu
        obtain ⟨v,h1,h2⟩:=toStrK_imp e
        exact same (x1 (by simp only [opC,hs,hd]) (by simp only [opR,hs,hd,hu]; exact h1) h2)
      · exact e.elim
    · rename_i e' hs hd
      split at e
      · rename_i hu
        rw [QI] at e; obtain ⟨s',hs',e⟩:=e
        rw [QX] at e; obtain ⟨n,h',hp,e⟩:=e
        exact same (x2 (f:=fun n=>.slice n 0 s'.len s'.len 1 false) (by simp only [opC,hs,hd]) (by simp only [opA,hs,hd,hu,hs']; rfl) hp e)
      · exact e.elim
    · exact same e
  case h_8 t x f=>
    split at e
    · rename_i off ft hf
      obtain ⟨v,h1,h2⟩:=faK_imp e; exact same (x0 rfl (by simp only [opP,hf]; exact h1) h2)
    · exact e.elim
  case h_9 t x f=>
    split at e
    · rename_i off ft hf
      rw [asAgg_iff] at e; obtain ⟨cs,hx,e⟩:=e
      obtain ⟨v,h1,h2⟩:=GF e
      exact same (x0 rfl (by simp only [opP,hf,hx,Do]; exact h1) h2)
    · exact e.elim
  case h_10 t x i=>
    split at e
    · rename_i el hk
      split at e
      · rename_i hkn
        obtain ⟨v,h1,h2⟩:=ixK_imp e; exact same (x0 rfl (by simp only [opP,hk,hkn]; exact h1) h2)
      · exact e.elim
    · rename_i n el hk
      split at e
      · rename_i hkn
        obtain ⟨v,h1,h2⟩:=ixaK_imp e; exact same (x0 rfl (by simp only [opP,hk,hkn]; exact h1) h2)
      · exact e.elim
    · exact e.elim
  case h_11 t x i=>
    split at e
    · rename_i hk
      obtain ⟨v,h1,h2⟩:=ixsK_imp e; exact same (x0 rfl (by simp only [opP,hk]; exact h1) h2)
    · rename_i n el hk
      split at e
      · rename_i hkn
        rw [asAgg_iff] at e; obtain ⟨cs,hx,e⟩:=e
        rw [ZT] at e; obtain ⟨kk,m,hi,e⟩:=e
        rw [Qz,Zk] at e
        obtain ⟨v,h1,h2⟩:=GF e.2
        exact same (x0 rfl (by simp only [opP,hk,hkn,hx,hi,UO,e.1]; exact h1) h2)
      · exact e.elim
    · exact e.elim
  case h_12 t x lo hi=>
    split at e
    · rename_i hk
      obtain ⟨v,h1,h2⟩:=subK_imp e; exact same (x0 rfl (by simp only [opP,hk]; exact h1) h2)
    · rename_i el hk
      split at e
      · rename_i hkn
        obtain ⟨v,h1,h2⟩:=slK_imp e; exact same (x0 rfl (by simp only [opP,hk,hkn]; exact h1) h2)
      · exact e.elim
    · exact e.elim
  case h_13 x i=>
    rw [asTup_iff] at e; obtain ⟨vs,hx,e⟩:=e
    rw [QF] at e; obtain ⟨v,hv,e⟩:=e
    rw [YA] at hv
    exact same (x0 rfl (by simp only [opP,hx,JR]; exact hv) (Yt e))
  case h_14 t ps=>
    split at e
    · rename_i fs hk
      split at e
      · rename_i hall
        obtain ⟨parts,cs',q1,q2,q3⟩:=UI e
        have:=q1 (Ww T fs) (DE T fs).1 (DE T fs).2
        exact same (x0 rfl (by simp only [opP,hk,hall,this,Us,q2]) q3)
      · exact e.elim
    · rename_i n el hk
      split at e
      · rename_i hkn
        obtain ⟨parts,cs',q1,q2,q3⟩:=UI e
        have:=q1 (fun l=>some (Uc (T el).size l)) rfl (fun _ _ _=>rfl)
        injection this with this
        exact same (x0 rfl (by simp only [opP,hk,hkn,this,Us,q2]) q3)
      · exact e.elim
    · exact e.elim
  case h_15 t a=>obtain ⟨v,h1,h2⟩:=Qb6 e; exact same (x1 rfl h1 h2)
  case h_16 t a x=>
    obtain ⟨hc,h',h1,h2⟩:=stK_imp e
    exact same (x3 rfl (by simp only [opW,hc,h1,op1]; exact h2))
  case h_17 el=>
    split at e
    · rename_i hk
      rw [QX] at e; obtain ⟨n,h',hp,e⟩:=e
      exact same (x2 (f:=fun n=>.ptr n 0) rfl (by simp only [opA,hk]; rfl) hp e)
    · exact e.elim
  case h_18 el x=>
    split at e
    · rw [asAgg_iff] at e; obtain ⟨cs, hx, e⟩ := e
      rw [QX] at e; obtain ⟨n,h',hp,e⟩:=e
      exact same (x2 (f:=fun n=>.ptr n 0) rfl (by simp only [opA,hx,QfU,VW]) hp e)
    · rw [Qz, QX] at e
      obtain ⟨h1,n,h',hp,e⟩:=e
      exact same (x2 (f:=fun n=>.ptr n 0) rfl (by simp only [opA,QfU,Jc h1]) hp e)
  case h_19 t n ps=>
    split at e
    · rename_i el hk
      split at e
      · rename_i hc
        obtain ⟨parts,cs',q1,q2,q3⟩:=UI e
        have:=q1 (fun l=>some (Uc (T el).size l)) rfl (fun _ _ _=>rfl)
        injection this with this
        rw [QF] at q3; obtain ⟨b,hb,q3⟩:=q3
        rw [QX] at q3; obtain ⟨i,h',hp,q3⟩:=q3
        exact same (x2 (f:=fun i=>.slice i 0 n n (T el).size true) rfl (by simp only [opA,hk,hc,this,W7,q2,hb]) hp q3)
      · exact e.elim
    · exact e.elim
  case h_20 t l c=>
    rw [QF] at e; obtain ⟨p,hp0,e⟩:=e
    rw [QX] at e; obtain ⟨n,h',hp,e⟩:=e
    exact same (x2 rfl hp0 hp e)
  case h_21 t x i ok=>
    split at e
    · rename_i kt el hk
      rw [QF] at e; obtain ⟨v,hv,e⟩:=e
      exact same (x1 rfl (by simp only [opR,hk]; exact hv) (Yt e))
    · exact e.elim
  case h_22 t m i v=>
    split at e
    · rename_i kt el hk
      exact same (x3 rfl (by simp only [opW,hk]; exact mapBlk_ok e))
    · exact e.elim
  case h_23 t=>
    rw [QX] at e; obtain ⟨n,h',hp,e⟩:=e
    exact same (x3 rfl (by simp only [opW,JO,hp]; exact e))
  case h_24 t x=>
    split at e
    · rename_i kt el hk
      exact same (x3 rfl (by simp only [opW,hk]; exact e))
    · exact e.elim
  case h_25 i=>exact same (x3 rfl e)
  case h_26 args argTypes=>
    split at e
    · rename_i x t ha ht
      split at e
      · rename_i hk
        rw [QI] at e; obtain ⟨s,hs,e⟩:=e
        exact same (x0 (by simp only [opC,ht,hk]) (by simp only [opP,ha,ht,hk,hs,Xp]) e)
      · rename_i el hk
        have c0 : opC T (.call { callee:=.builtin .len,args,argTypes }) = 0:=by simp only [opC,ht,hk]
        rw [ZS] at e
        rcases e with ⟨hs,e⟩ | ⟨_,_,_,_,_,_,hs,e⟩
        · exact same (x0 c0 (by simp only [opP,ha,ht,hk,hs,Gi]) e)
        · exact same (x0 c0 (by simp only [opP,ha,ht,hk,hs,Gi]) e)
      · rename_i kt el hk
        rw [QF] at e; obtain ⟨v,hv,e⟩:=e
        exact same (x1 (by simp only [opC,ht,hk]) (by simp only [opR,ha,ht,hk]; exact hv) e)
      · exact e.elim
    · exact e.elim
  case h_27 args argTypes =>
    split at e
    · rename_i s x t t2 ha ht
      split at e
      · rename_i el hk
        split at e
        · rename_i hc
          split at e
          · rename_i hu
            exact same (x3 rfl (by simp only [opW,ha,ht,hk,hc,hu]; exact apB_imp e))
          · rename_i hu
            exact same (x3 rfl (by simp only [opW,ha,ht,hk,hc,hu]; exact apC_imp e))
        · exact e.elim
      · exact e.elim
    · exact e.elim
  case h_28 args argTypes=>
    split at e
    · rename_i m i t t2 ha ht
      split at e
      · rename_i kt el hk
        obtain ⟨h',h1,h2⟩:=mapBlkD_ok e
        exact same (x3 rfl (by simp only [opW,ha,ht,hk,h1]; exact h2))
      · exact e.elim
    · exact e.elim
  case h_29 args argTypes=>
    rw [QF] at e; obtain ⟨v,hv,e⟩:=e
    exact same (x0 rfl hv (Yt e))
  case h_30 args argTypes=>
    rw [QF] at e; obtain ⟨v,hv,e⟩:=e
    exact same (x0 rfl hv (Yt e))
  case h_31 f args argTypes=>
    refine ⟨fun v h'=>V2 (T ty).kd v fun v=>k v h',x3 rfl ?_,fun r h' hc=>Yt hc⟩
    unfold Nd at e
    unfold opW
    split at e
    · rename_i hf; simp only [hf]; exact e
    · rename_i hf; simp only [hf]; exact e
    · exact e.elim
  case h_32 x xt a ok=>
    rw [QF] at e; obtain ⟨v,hv,e⟩:=e
    exact same (x0 rfl hv (Yt e))
  case h_33=>exact same e
end
end Go.Am
namespace Go.Am
open Go
def put (dst : Option Nat) (v : AV) (env : List AV) : List AV :=
  match dst with
  | some d=>XS env d v
  | none=>env
def QeX : List AV→Nat→AV→(List AV→Prop)→Prop:=@List.rec AV (fun _=>Nat→AV→(List AV→Prop)→P2) (fun _ _ k=>k [])
  (fun a t ih i v k=>Nat.rec (motive:=fun _=>Prop) (k (v :: t)) (fun j _=>ih j v fun t'=>k (a :: t')) i)
theorem DT : ∀ (l : List AV) (i : Nat) (v : AV) (k : List AV→Prop),QeX l i v k = k (XS l i v)
  | [],_,_,_=>rfl
  | _ :: _,0,_,_=>rfl
  | a :: t, i + 1, v, k => by
    show QeX t i v (fun t'=>k (a :: t')) = _
    rw [DT t]; rfl
def Qax (dst : Option Nat) (v : AV) (env : List AV) (k : List AV→Prop) : Prop :=
  match dst with
  | some d=>QeX env d v k
  | none=>k env
theorem WW (dst : Option Nat) (v : AV) (env : List AV) (k : List AV→Prop) : Qax dst v env k = k (put dst v env):=by
  cases dst with
  | none=>rfl
  | some d=>exact DT env d v k
def U5 (J : Qm) (all : List Oper) (o : Oper) (env : List AV) (h : H) (run : (AV→H→Prop)→Prop) (k : AV→H→Prop) : Prop :=
  match o.guard with
  | none=>run k
  | some (j, want) => match all[j]? with
    | some oj => match oj.dst with
      | some d => J.jn k fun j => QH (Wn .junk env d) (fun b => match want with
        | true=>br b (run j) (j Qb h)
        | false=>br b (j Qb h) (run j)) (j Qb h)
      | none=>False
    | none=>False
def JY (T : Ty) (G : Gam) (top : Bool) (all : List Oper) : List Oper→List AV→List Dfr→H→(List AV→List Dfr→H→Prop)→Prop
  | [],env,ds,h,k=>k env ds h
  | o :: r, env, ds, h, k => match o.op with
    | .defer c => match top, o.guard, c.callee with
      | true, none, .value f => match ev env f with
        | .func (.func g) first captured=>Qax o.dst .junk env fun env1=>JY T G top all r env1 (.call g (first ++ c.args.toList.map (ev env)) captured :: ds) h k
        | _=>False
      | _,_,_=>False
    | _=>U5 G.J all o env h (opF T G o.type o.op (ev env) h) fun v h'=>Qax o.dst v env fun env=>JY T G top all r env ds h' k
def VO (o : Oper) : List Nat:=o.after.toList.filterMap fun e=>if Region.binds .any e then some e.on else none
def Ka (acc : List Nat) : List Nat→Nat
  | []=>0
  | d :: r=>Nat.lor (Nat.lor (Nat.shiftLeft 1 d) (acc.getD d 0)) (Ka acc r)
def Zx : List Oper→List Nat→List Nat
  | [],acc=>acc
  | o :: r,acc=>Zx r (acc ++ [Ka acc (VO o)])
def looks (ops : List Oper) (o : Oper) : List Nat :=
  (o.op.operands.toList.filterMap fun | .tmp t=>some t | _=>none) ++
  (match o.guard with
   | some (g,_)=>((ops[g]?).bind (·.dst)).toList
   | none=>[])
def XH (cls : List Nat) (dl : List (List Nat)) (done : List Nat) (w : Bool) : List Nat → Option Nat
  | []=>none
  | i :: r => match done.contains i || (w != (cls.getD i 3 == 3)) || !((dl.getD i []).all done.contains) with
    | true=>XH cls dl done w r
    | false=>some i
def QfG (cls : List Nat) (dl : List (List Nat)) (all : List Nat) : Nat → List Nat → List Nat
  | 0,done=>done
  | n + 1, done => match XH cls dl done false all with
    | some i=>QfG cls dl all n (done ++ [i])
    | none => match XH cls dl done true all with
      | some i=>QfG cls dl all n (done ++ [i])
      | none=>done
def QeR (T : Ty) (ops : List Oper) : List Nat :=
  QfG (ops.map fun o=>opC T o.op) (ops.map VO) (List.range ops.length) ops.length []
def QfO (M π : List Nat) (i j : Nat) : Bool:=Nat.testBit (M.getD j 0) i && Nat.blt (π.idxOf i) (π.idxOf j)
def XI (T : Ty) (ops : List Oper) (M π : List Nat) (i j : Nat) (oi oj : Oper) : Bool :=
  i == j || QfO M π i j || QfO M π j i ||
    (!(match oi.dst with | some t=>(looks ops oj).contains t || oj.dst == some t | none=>false) &&
     !(opC T oi.op == 3 && opC T oj.op == 3) &&
     !(opC T oi.op == 3 && Nat.blt (π.idxOf i) (π.idxOf j)))
def Uz (T : Ty) (ops : List Oper) (M π : List Nat) : Bool :=
  π.length == ops.length &&
  ((List.range ops.length).all fun p=>π.idxOf (π.getD p 0) == p && Nat.blt (π.getD p 0) ops.length) &&
  ((List.range ops.length).all fun i=>match ops[i]? with
    | some oi=>(Nat.blt (π.idxOf i) ops.length) && (VO oi).all (fun d=>Nat.blt (π.idxOf d) (π.idxOf i)) &&
        (List.range ops.length).all fun j=>match ops[j]? with
          | some oj=>XI T ops M π i j oi oj
          | none=>false
    | none=>false)
def QV (i j : Nat) (ops : List Oper) : List Oper:=ops.modify j fun o=>{ o with after:=o.after.push ⟨i,.data⟩ }
def UG (o : Oper) : Option Operand :=
  match o.op,o.guard,o.dst with
  | .store _ p _,none,none=>some p
  | _,_,_=>none
def Qbb (T : Ty) (ops : List Oper) (i j : Nat) (C : List Nat) : Bool :=
  Uz T (QV i j ops) (Zx (QV i j ops) []) (C ++ [i,j]) && Uz T (QV j i ops) (Zx (QV j i ops) []) (C ++ [j,i]) &&
    C.all fun x=>Nat.beq ((Zx (QV i j ops) []).getD x 0) ((Zx (QV j i ops) []).getD x 0)
def two (T : Ty) (ops : List Oper) : Option (Nat × Nat × List Nat × Operand × Operand) :=
  match (QeR T ops).reverse with
  | j :: i :: C => match ops[i]?, ops[j]? with
    | some oi, some oj => match UG oi, UG oj with
      | some p, some q => match Qbb T ops i j C.reverse with
        | true=>some (i,j,C.reverse,p,q)
        | false=>none
      | _,_=>none
    | _,_=>none
  | _=>none
def AV.same : AV→AV→Bool
  | .bool a,.bool b=>a == b
  | .int k a,.int k' b=>decide (k = k') && a == b
  | .str a,.str b=>decide (a = b)
  | .nilp,.nilp=>true
  | .ptr a b,.ptr c d=>a == c && b == d
  | .nils,.nils=>true
  | .slice a b c d e f,.slice a' b' c' d' e' f'=>a == a' && b == b' && c == c' && d == d' && e == e' && f == f'
  | .nilm,.nilm=>true
  | .map a,.map b=>a == b
  | .nilf,.nilf=>true
  | .nili,.nili=>true
  | .agg as,.agg bs=>sames as bs
  | _,_=>false
where
  sames : List AV→List AV→Bool
    | [],[]=>true
    | a :: as,b :: bs=>AV.same a b && sames as bs
    | _,_=>false
structure Yy where
  i : Nat
  op : Op
  env : List AV
  v : AV
  b : Bool
def Zj (o : Option AV) (v : AV) : Bool:=Option.rec (motive:=fun _=>Bool) false (fun x=>AV.same x v) o
def Qe7 (o : Op) : Bool :=
  match o with
  | .load _ (.global _)=>true
  | _=>false
def Z8 (T : Ty) (m : Nat) (h : H) (k : Prop) : List Yy→Prop
  | []=>k
  | s :: r => match Bool.or (Nat.testBit m s.i) (Qe7 s.op) with
    | true=>Z8 T m h k r
    | false=>ck (Bool.rec (motive:=fun _=>Bool) true (Zj (opR T s.op (ev s.env) h) s.v) s.b) (Z8 T m h k r)
def QaG (J : Qm) (all : List Oper) (o : Oper) (env : List AV) (run : (AV→Prop)→Prop) (k : Bool→AV→Prop) : Prop :=
  match o.guard with
  | none=>run (k true)
  | some (j, want) => match all[j]? with
    | some oj => match oj.dst with
      | some d => J.jb k fun j => QH (Wn .junk env d) (fun b => match want with
        | true=>br b (run (j true)) (j false Qb)
        | false=>br b (j false Qb) (run (j true))) (j false Qb)
      | none=>False
    | none=>False
def Wl (T : Ty) (G : Gam) (all : List Oper) (M : List Nat) : List Nat→List Yy→List AV→H→(List Yy→List AV→H→Prop)→Prop
  | [],seen,env,h,k=>k seen env h
  | i :: r, seen, env, h, k => match all[i]? with
    | none=>False
    | some o => match opC T o.op with
      | 1=>QaG G.J all o env (fun k=>opF T G o.type o.op (ev env) h fun v _=>k v) fun b v=>Qax o.dst v env fun env'=>Wl T G all M r (⟨i,o.op,env,v,b⟩ :: seen) env' h k
      | 3=>U5 G.J all o env h (opF T G o.type o.op (ev env) h) fun v h'=>Z8 T (M.getD i 0) h' (Qax o.dst v env fun env=>Wl T G all M r seen env h' k) seen
      | _=>U5 G.J all o env h (opF T G o.type o.op (ev env) h) fun v h'=>Qax o.dst v env fun env=>Wl T G all M r seen env h' k
def addL (x : Nat) (l : List Nat) : List Nat:=if l.contains x then l else x :: l
def Nn (a b : List Nat) : List Nat:=a.foldr addL b
def Qap (x : Operand) (acc : List Nat) : List Nat :=
  match x with
  | .tmp t=>addL t acc
  | _=>acc
structure Lv where
  norm : List Nat
  ex : List (Nat × List Nat)
  ret : List Nat
def guardRd (ops : List Oper) (o : Oper) (acc : List Nat) : List Nat :=
  match o.guard with
  | some (j, _) => match ops[j]? with
    | some oj => match oj.dst with
      | some d=>addL d acc
      | none=>acc
    | none=>acc
  | none=>acc
def lessO (d : Option Nat) (acc : List Nat) : List Nat :=
  match d with
  | some d=>acc.filter fun x=>!(Nat.beq x d)
  | none=>acc
def readsR (all : List Oper) (ops : List Oper) (acc : List Nat) : List Nat:=ops.foldr (fun o acc=>guardRd all o (o.op.operands.toList.foldr Qap (lessO o.dst acc))) acc
def QfK (i : Nat) : List (Nat × List Nat)→List Nat
  | []=>[]
  | p :: l=>if Nat.beq p.1 i then p.2 else QfK i l
def reads : Code→Lv→List Nat
  | .region _ ops _,L=>readsR ops.toList ops.toList L.norm
  | .seq a b,L=>reads a ⟨reads b L,L.ex,L.ret⟩
  | .cond c a b,L=>Qap c (Nn (reads a L) (reads b L))
  | .block id b,L=>reads b ⟨L.norm,(id,L.norm) :: L.ex,L.ret⟩
  | .loop b,L=>reads b ⟨[],L.ex,L.ret⟩
  | .scope b,L=>reads b L
  | .rangeFunc f _ a b,L=>Qap f (Nn (reads a ⟨reads b ⟨[],L.ex,L.ret⟩,L.ex,L.ret⟩) (L.ex.foldr (fun p acc=>Nn p.2 acc) (Nn L.ret L.norm)))
  | .skip,L=>L.norm
  | .label _,L=>L.norm
  | .ret,L=>L.ret
  | .exit i,L=>QfK i L.ex
  | _,_=>[]
def KK (id : Nat) : Code→Nat
  | .seq a b=>KK id a + KK id b
  | .cond _ a b=>KK id a + KK id b
  | .block _ b=>KK id b
  | .loop b=>KK id b
  | .scope b=>KK id b
  | .rangeFunc _ _ _ _=>1
  | .exit i=>if i = id then 1 else 0
  | _=>0
def QaQ : Code→Nat
  | .skip=>1
  | .label _=>1
  | .region ..=>1
  | .rangeFunc ..=>1
  | .seq a b=>min (QaQ a) 1 * QaQ b
  | .cond _ a b=>QaQ a + QaQ b
  | .block id b=>QaQ b + KK id b
  | .scope b=>QaQ b
  | _=>0
def Tup : List Nat→Type
  | []=>Unit
  | _ :: l=>AV × Tup l
def KZ : (l : List Nat)→List AV→Tup l
  | [],_=>()
  | t :: l,env=>(Wn .junk env t,KZ l env)
def Wu : (n : Nat)→Nat→(L : List Nat)→Tup L→List AV
  | 0,_,_,_=>[]
  | n + 1,i,[],v=>.junk :: Wu n (i + 1) [] v
  | n + 1, i, t :: L, v => match Nat.beq i t with
    | true=>v.1 :: Wu n (i + 1) L v.2
    | false=>.junk :: Wu n (i + 1) (t :: L) v
def live (n : Nat) (L : List Nat) : List Nat:=(List.range n).filter L.contains
def JE (id0 id1 : Nat) (K : Ks) (env : List AV) (ds : List Dfr) (h : H) : Prop :=
  match h.get id1 with
  | .loop .busy _ _ _ _ _=>False
  | .loop _ pend _ _ _ _ => Z7 id1 .exhausted pend h fun h' => match pend with
    | none=>K.norm env (.coll id0 :: ds) h'
    | some .ret=>K.ret env (.coll id0 :: ds) h'
    | some (.exit i)=>K.exit i env (.coll id0 :: ds) h'
    | _=>False
  | _=>False
def den (T : Ty) (G : Gam) (top : Bool) (n : Nat) : Code→Lv→Ks→List AV→List Dfr→H→Prop
  | .skip,_,K,env,ds,h=>K.norm env ds h
  | .label _,_,K,env,ds,h=>K.norm env ds h
  | .ret,_,K,env,ds,h=>K.ret env ds h
  | .exit id,_,K,env,ds,h=>K.exit id env ds h
  | .region _ ops draw, _, K, env, ds, h => match draw with
    | false=>JY T G top ops.toList ops.toList env ds h K.norm
    | true => match Uz T ops.toList (Zx ops.toList []) (QeR T ops.toList) with
      | true=>Wl T G ops.toList (Zx ops.toList []) (QeR T ops.toList) [] env h fun _ env h=>K.norm env ds h
      | false => match two T ops.toList with
        | some (i, j, C, p, q) => Wl T G (QV i j ops.toList) (Zx (QV i j ops.toList) []) C [] env h fun seen env h => asPtr (ev env p) fun a _ => asPtr (ev env q) fun b _ => ck (Bool.not (Nat.beq a b))
          (Wl T G (QV j i ops.toList) (Zx (QV j i ops.toList) []) [j,i] seen env h fun _ _ _=>Wl T G (QV i j ops.toList) (Zx (QV i j ops.toList) []) [i,j] seen env h fun _ env h=>K.norm env ds h)
        | none=>False
  | .seq a b, L, K, env, ds, h => match Nat.ble (QaQ a) 1 with
    | true=>den T G top n a ⟨reads b L,L.ex,L.ret⟩ ⟨den T G top n b L K,K.exit,K.ret⟩ env ds h
    | false=>G.J.jd (α:=Tup (live n (reads b L))) (fun v=>den T G top n b L K (Wu n 0 (live n (reads b L)) v)) fun j=>den T G top n a ⟨reads b L,L.ex,L.ret⟩ ⟨fun e=>j (KZ (live n (reads b L)) e),K.exit,K.ret⟩ env ds h
  | .cond c a b,L,K,env,ds,h=>asB (ev env c) fun c=>br c (den T G top n a L K env ds h) (den T G top n b L K env ds h)
  | .block id b, L, K, env, ds, h => den T G top n b ⟨L.norm, (id, L.norm) :: L.ex, L.ret⟩ ⟨K.norm, fun i e => match Nat.beq i id with
    | true=>K.norm e
    | false=>K.exit i e,K.ret⟩ env ds h
  | .scope b,L,K,env,ds,h=>den T G top n b L K env ds h
  | .loop b,L,K,env,ds,h=>G.J.lp (α:=Tup (live n (reads b ⟨[],L.ex,L.ret⟩))) (fun self v=>den T G top n b ⟨reads b ⟨[],L.ex,L.ret⟩,L.ex,L.ret⟩ ⟨fun e=>self (KZ (live n (reads b ⟨[],L.ex,L.ret⟩)) e),K.exit,K.ret⟩ (Wu n 0 (live n (reads b ⟨[],L.ex,L.ret⟩)) v)) (KZ (live n (reads b ⟨[],L.ex,L.ret⟩)) env) ds h
  | .rangeFunc g ps a b, _, K, env, ds, h => match top with
    | true => match ev env g with
      | .func (.func f) first captured=>Qs (.defd true) h fun id0 h=>Qs (.loop .ready none ps.toList a b env) h fun id1 h=>G.it f (first ++ (.yield id1 :: captured)) h fun _ h=>JE id0 id1 K env ds h
      | _=>False
    | false=>False
  | _,_,_,_,_,_=>False
def Qr (G : Gam) : List Dfr→H→(H→Prop)→Prop
  | [],h,k=>k h
  | .coll id :: ds, h, k => match h.get id with
    | .defd true=>ZL id (.defd false) h fun h=>Qr G ds h k
    | _=>False
  | .call f as cs :: ds,h,k=>G.dfn f (as ++ cs) h fun _ h=>Qr G ds h k
def Qdk (T : Ty) (env : List AV) (h : H) : List ResultVar→List Nat→(List AV→Prop)→Prop
  | [],_,k=>k []
  | r :: l, ts, k => match r, ts with
    | .tmp t,ty :: ts=>V2 (T ty).kd (Wn .junk env t) fun v=>Qdk T env h l ts fun vs=>k (v :: vs)
    | .cell a t,_=>ldK T t (Wn .junk env a) h fun v=>Qdk T env h l ts.tail fun vs=>k (v :: vs)
    | _,_=>False
def Wb (T : Ty) (rs : List ResultVar) (ts : List Nat) (env : List AV) (h : H) (k : AV→H→Prop) : Prop :=
  Qdk T env h rs ts fun vs=>match vs with
    | [v]=>k v h
    | vs=>k (.tuple vs) h
def Vh : List ResultVar→List Nat
  | []=>[]
  | .tmp t :: l=>t :: Vh l
  | .cell a _ :: l=>a :: Vh l
def KD (n : Nat) : List AV→List AV:=Nat.rec (motive:=fun _=>List AV→List AV) (fun _=>[]) (fun _ ih l=>List.rec (motive:=fun _=>List AV) (.junk :: ih []) (fun a t _=>a :: ih t) l) n
def Ql (T : Ty) (G : Gam) (f : Func) : Fun:=fun args h k=>
  match f.body,Nat.ble args.length f.ntmps with
  | some c,true=>den T G true f.ntmps c ⟨Vh f.results.toList,[],Vh f.results.toList⟩ ⟨fun env ds h=>Qr G ds h fun h=>Wb T f.results.toList f.resultTypes.toList env h k,fun _ _ _ _=>False,fun env ds h=>Qr G ds h fun h=>Wb T f.results.toList f.resultTypes.toList env h k⟩ (KD f.ntmps args) [] h
  | _,_=>False
def GN (ds : List Dfr) (p : Prop) : Prop :=
  match ds with
  | []=>p
  | _=>False
def denD (T : Ty) (G : Gam) (f : Func) : Fun:=fun args h k=>
  match f.body,Nat.ble args.length f.ntmps with
  | some c,true=>den T G true f.ntmps c ⟨Vh f.results.toList,[],Vh f.results.toList⟩ ⟨fun env ds h=>GN ds (Wb T f.results.toList f.resultTypes.toList env h k),fun _ _ _ _=>False,fun env ds h=>GN ds (Wb T f.results.toList f.resultTypes.toList env h k)⟩ (KD f.ntmps args) [] h
  | _,_=>False
def Kk (T : Ty) (G : Gam) : Code→Ks→List AV→List Dfr→H→Prop:=fun c K env ds h=>den T G false env.length c ⟨[],[],[]⟩ K env ds h
end Go.Am
