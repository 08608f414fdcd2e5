import Derived.Test.YtfgdelkdmdmfgaaDoorAmL2
noncomputable section
set_option linter.all false
namespace Go.Am
open Go
abbrev Fun:=List AV→H→(AV→H→Prop)→Prop
inductive Dfr where
  | coll (id:Nat)
  | call (f:Nat) (args captured:List AV)
structure Ks where
  norm:List AV→List Dfr→H→Prop
  exit:Nat→List AV→List Dfr→H→Prop
  ret:List AV→List Dfr→H→Prop
def KH {α:Type} (body:(α→List Dfr→H→Prop)→α→List Dfr→H→Prop) (n:Nat):α→List Dfr→H→Prop :=
  Nat.rec (motive:=fun _=>α→List Dfr→H→Prop) (fun _ _ _=>False) (fun _ self=>body self) n
def fuel:Nat:=4611686018427387904
structure Qh where
  jn:(AV→H→Prop)→((AV→H→Prop)→Prop)→Prop
  jb:(Bool→AV→Prop)→((Bool→AV→Prop)→Prop)→Prop
  jd:{α:Type}→(α→List Dfr→H→Prop)→((α→List Dfr→H→Prop)→Prop)→Prop
  lp:{α:Type}→((α→List Dfr→H→Prop)→α→List Dfr→H→Prop)→α→List Dfr→H→Prop
  jn_ok:∀ j b,jn j b=b j
  jb_ok:∀ j b,jb j b=b j
  jd_ok:∀ (α:Type) (j:α→List Dfr→H→Prop) b,jd j b=b j
  lp_ok:∀ (α:Type) (b:(α→List Dfr→H→Prop)→α→List Dfr→H→Prop) v ds h,lp b v ds h=KH b fuel v ds h
def J0:Qh:=⟨fun j b=>b j,fun j b=>b j,fun j b=>b j,fun b=>KH b fuel,fun _ _=>rfl,fun _ _=>rfl,fun _ _ _=>rfl,fun _ _ _ _ _=>rfl⟩
structure Gam where
  J:Qh
  fn:Nat→Fun
  it:Nat→Fun
  dfn:Nat→Fun
  code:Code→Ks→List AV→List Dfr→H→Prop
def ev (env:List AV):Operand→AV
  | .tmp t=>Wi .junk env t
  | .const v=>Qc5 v
  | .global g=>.glob g 0
  | .func f=>.func (.func f) [] []
def QdM (T:Ty) (s d:Nat) (v:AV):Option AV :=
  match (T d).kd with
  | .int k => match (T s).kd.known with
    | true=>aInt k v
    | false=>none
  | .str => match (T s).kd, v with
    | .str,.str x=>some (.str x)
    | _,_=>none
  | _=>none
def VJ (T : Ty) (t f : Nat) : Option (Nat × Nat) :=
  match (T t).kd with
  | .struct fs => match fs[f]? with
    | some (off, ft) => match (T ft).kd.known && Nat.ble 1 (T ft).size with
      | true=>some (off,ft)
      | false=>none
    | none=>none
  | _=>none
def opP (T:Ty) (o:Op) (ρ:Operand→AV):Option AV :=
  match o with
  | .move x=>some (ρ x)
  | .assign x=>some (ρ x)
  | .pick c a b=>QdL (ρ c) (ρ a) (ρ b)
  | .nilCheck x=>X7 (ρ x)
  | .binOp op t x y _=>Kk T op t (WO x || WO y) (ρ x) (ρ y)
  | .unOp op _ x=>aUn op (ρ x)
  | .convert s d x=>QdM T s d (ρ x)
  | .makeFunc fn a b=>some (.func fn (a.toList.map ρ) (b.toList.map ρ))
  | .makeInterface t x => match (T t).kd with
    | .iface=>none
    | .other=>none
    | _=>some (.iface t (ρ x))
  | .fieldAddr t x f => match VJ T t f with
    | some (off,_)=>UJ off (ρ x)
    | none=>none
  | .field t x f => match VJ T t f with
    | some (off,ft)=>QaU (T ft).kd.agg (T ft).size off (ρ x)
    | none=>none
  | .indexAddr t x i => match (T t).kd with
    | .slice e => match (T e).kd.known with
      | true=>Vw (T e).size (ρ x) (ρ i)
      | false=>none
    | .arr n e => match (T e).kd.known with
      | true=>YV n (T e).size (ρ x) (ρ i)
      | false=>none
    | _=>none
  | .index t x i => match (T t).kd with
    | .str=>Uk (ρ x) (ρ i)
    | .arr n e => match (T e).kd.known with
      | true=>JJ n (T e).kd.agg (T e).size (ρ x) (ρ i)
      | false=>none
    | _=>none
  | .slice t x lo hi none => match (T t).kd with
    | .str=>Ui (ρ x) (lo.map ρ) (hi.map ρ)
    | .slice e => match (T e).kd.known with
      | true=>Vv (T e).size (ρ x) (lo.map ρ) (hi.map ρ) none
      | false=>none
    | _=>none
  | .extract x i=>Xd i (ρ x)
  | .build t ps => match (T t).kd with
    | .struct fs => match fs.all (fun p => (T p.2).kd.known) with
      | true => match Vf T fs (ps.toList.map fun p => (p.1, ρ p.2)) with
        | some l=>Jo (T t).zero l
        | none=>none
      | false=>none
    | .arr _ e => match (T e).kd.known with
      | true=>Jo (T t).zero (U2 (T e).size (ps.toList.map fun p=>(p.1,ρ p.2)))
      | false=>none
    | _=>none
  | .typeAssert x _ a ok=>Wl T a ok (ρ x)
  | .slice t x lo hi (some m) => match (T t).kd with
    | .slice e => match (T e).kd.known with
      | true=>JH (T e).size (ρ x) (lo.map ρ) (hi.map ρ) (ρ m)
      | false=>none
    | _=>none
  | .call { callee := .builtin .len, args, argTypes } => match args.toList, argTypes.toList with
    | [x], [t] => match (T t).kd with
      | .str=>GR (ρ x)
      | .slice _=>NZ (ρ x)
      | _=>none
    | _,_=>none
  | .call { callee:=.builtin b,args,argTypes }=>aBiP T b (args.toList.map ρ) argTypes.toList
  | _=>none
def opR (T:Ty) (o:Op) (ρ:Operand→AV) (h:H):Option AV :=
  match o with
  | .load t a => match (T t).kd.known with
    | true => match (T t).kd.agg with
      | true=>Y7 (T t).size (ρ a) h
      | false=>Zn (ρ a) h
    | false=>none
  | .convert s d x => match (T s).kd, (T d).kd with
    | .slice e, .str => match (T e).kd.isU8 with
      | true=>UH (ρ x) h
      | false=>none
    | .ptr e, .unsafe_ => match (T e).kd.known && Nat.ble 1 (T e).size with
      | true=>aToU (ρ x) h
      | false=>none
    | .unsafe_, .ptr e => match (T e).kd.known && Nat.ble 1 (T e).size with
      | true=>aOfU e (T e).size (ρ x) h
      | false=>none
    | _,_=>none
  | .lookup t x i ok => match (T t).kd with
    | .map k e=>Q5 T k e ok (ρ x) (ρ i) h
    | _=>none
  | .entry it=>VU (ρ it) h
  | .call { callee := .builtin .len, args, argTypes } => match args.toList, argTypes.toList with
    | [x], [t] => match (T t).kd with
      | .map _ _=>JI (ρ x) h
      | _=>none
    | _,_=>none
  | _=>none
def Kx (T:Ty) (e:Nat):Bool:=(T e).kd.known && Nat.ble 1 (T e).size && Nat.beq (T e).zero.length (T e).size && Nat.ble 1 (T e).bytes
def opA (T:Ty) (o:Op) (ρ:Operand→AV):Option (Blk × (Nat→AV)) :=
  match o with
  | .alloc e => match (T e).kd.known with
    | true=>Qfk e (T e).zero
    | false=>none
  | .box e x=>Qfj e (ρ x)
  | .buildSlice t n ps => match (T t).kd with
    | .slice e => match Kx T e && Nat.ble 0 n && Nat.ble (Nat.mul n (T e).size) 16777216 with
      | true=>VO (T e).size (T e).kd.isU8 e (T e).zero n (U2 (T e).size (ps.toList.map fun p=>(p.1,ρ p.2)))
      | false=>none
    | _=>none
  | .convert s d x => match (T s).kd, (T d).kd with
    | .str, .slice e => match (T e).kd.isU8 with
      | true=>X6 e (ρ x)
      | false=>none
    | _,_=>none
  | .makeSlice t l c => match (T t).kd with
    | .slice e => match Kx T e with
      | true=>QaT T e (ρ l) (ρ c)
      | false=>none
    | _=>none
  | _=>none
def Vd:Kd→Bool
  | .str=>true
  | .slice _=>true
  | _=>false
def op2 (o:Option (AV × H)) (k:AV→H→Prop):Prop :=
  match o with
  | some (v,h')=>k v h'
  | none=>False
def op1 (o:Option H) (k:AV→H→Prop):Prop :=
  match o with
  | some h'=>k .junk h'
  | none=>False
def Zr (id:Nat) (st:LoopState) (pend:Option Code) (h:H) (k:H→Prop):Prop :=
  match h.get id with
  | .loop _ _ ps a b e=>Yy id (.loop st pend ps a b e) h k
  | _=>False
def QdS:List Nat→List AV→List AV→List AV
  | p::ps,a::as,env=>QdS ps as (XB env p a)
  | _,_,env=>env
def Xh (G:Gam) (id:Nat) (args:List AV) (h:H) (k:AV→H→Prop):Prop :=
  match h.get id with
  | .loop _ _ ps a b env => match Nat.beq args.length ps.length with
    | true=>G.code a
        ⟨fun e1 d1 h1=>match h1.get id with
          | .loop .ready pend _ _ _ _ => Zr id .busy pend h1 fun h2 => G.code b
            ⟨fun _ _ h3=>Zr id .ready none h3 (k (.bool true)),fun i _ _ h3=>Zr id .done (some (.exit i)) h3 (k (.bool false)),fun _ _ h3=>Zr id .done (some .ret) h3 (k (.bool false))⟩ e1 d1 h2
          | _=>False,fun _ _ _ _=>False,fun _ _ _=>False⟩ (QdS ps args env) [] h
    | false=>False
  | _=>False
def aMark (v:AV) (h:H):Option (Nat × Blk) :=
  match v with
  | .slice id _ _ cap _ _ => match h.get id with
    | .bytes t 0 false s => match Nat.blt 0 cap with
      | true=>some (id,.bytes t 0 true s)
      | false=>none
    | _=>none
  | _=>none
def markK (same:Bool) (s d:Kd) (kd:Nat→Kd) (x:AV) (h:H) (k:AV→H→Prop):Prop :=
  match same,s,d with
  | true, .slice e, .slice _ => match (kd e).isU8 with
    | true => match aMark x h with
      | some p => match h.put p.1 p.2 with
        | some h'=>k x h'
        | none=>False
      | none=>False
    | false=>False
  | _,_,_=>False
def opW (T:Ty) (G:Gam) (o:Op) (ρ:Operand→AV) (h:H) (k:AV→H→Prop):Prop :=
  match o with
  | .store t a x => match (T t).kd.known && Nat.ble 0 (T t).size with
    | true=>op1 (Yu (T t).size (ρ a) (ρ x) h) k
    | false=>False
  | .mapUpdate t m i v => match (T t).kd with
    | .map kt _=>op1 (UI T kt (ρ m) (ρ i) (ρ v) h) k
    | _=>False
  | .makeMap _ none=>op2 (Xb h) k
  | .range t x => match (T t).kd with
    | .map _ _=>VN (ρ x) h k
    | _=>False
  | .next i false=>JT (ρ i) h k
  | .call { callee := .builtin .append, args, argTypes } => match args.toList, argTypes.toList with
    | [s, x], [t, t2] => match (T t).kd with
      | .slice e => match Kx T e && Vd (T t2).kd with
        | true => match (T e).kd.isU8 && Nat.beq (T e).size 1 && Nat.beq (T e).bytes 1 with
          | true=>op2 (Jq e (ρ s) (ρ x) h) k
          | false=>op2 (Jp e (T e).size (T e).bytes (ρ s) (ρ x) h) k
        | false=>False
      | _=>False
    | _,_=>False
  | .call { callee := .builtin .delete, args, argTypes } => match args.toList, argTypes.toList with
    | [m, i], [t, _] => match (T t).kd with
      | .map kt _ => match Xa T kt (ρ m) (ρ i) h with
        | some h'=>k (.tuple []) h'
        | none=>False
      | _=>False
    | _,_=>False
  | .call { callee:=.builtin b,args,argTypes }=>op2 (aBiW T b (args.toList.map ρ) argTypes.toList h) k
  | .call { callee := .value f, args, .. } => match ρ f with
    | .func (.func g) first captured=>G.fn g (first++(args.toList.map ρ++captured)) h k
    | .yield id=>Xh G id (args.toList.map ρ) h k
    | _=>False
  | .convert s d x=>markK (Nat.beq s d) (T s).kd (T d).kd (fun e=>(T e).kd) (ρ x) h k
  | .insert t m i v => match (T t).kd with
    | .map kt _=>op1 (UI T kt (ρ m) (ρ i) (ρ v) h) k
    | _=>False
  | .slice t x lo hi none => match (T t).kd with
    | .arr n e => match (T e).kd.isU8 && Nat.beq (T e).size 1 with
      | true=>op2 (Va n (ρ x) (lo.map ρ) (hi.map ρ) h) k
      | false=>False
    | _=>False
  | _=>False
def opC (T : Ty) (o : Op) : Nat :=
  match o with
  | .load ..=>1
  | .convert s d _ => match (T s).kd, (T d).kd with
    | .slice _,.str=>1
    | .ptr _,.unsafe_=>1
    | .unsafe_,.ptr _=>1
    | .str,.slice _=>2
    | .slice _,.slice _=>3
    | _,_=>0
  | .alloc _=>2
  | .box ..=>2
  | .makeSlice ..=>2
  | .lookup ..=>1
  | .entry _=>1
  | .mapUpdate ..=>3
  | .makeMap ..=>3
  | .range ..=>3
  | .next ..=>3
  | .call { callee := .builtin .len, argTypes, .. } => match argTypes.toList with
    | [t] => match (T t).kd with
      | .map _ _=>1
      | _=>0
    | _=>0
  | .buildSlice ..=>2
  | .store ..=>3
  | .call { callee:=.builtin b,.. }=>biC b
  | .call _=>3
  | .insert ..=>3
  | .slice t _ _ _ none => match (T t).kd with
    | .arr _ _=>3
    | _=>0
  | _=>0
def opX (T:Ty) (G:Gam) (o:Op) (ρ:Operand→AV) (h:H) (k:AV→H→Prop):Prop :=
  match opC T o with
  | 0 => match opP T o ρ with
    | some v=>k v h
    | none=>False
  | 1 => match opR T o ρ h with
    | some v=>k v h
    | none=>False
  | 2=>op2 (aNew (opA T o ρ) h) k
  | _=>opW T G o ρ h k
end Go.Am
namespace Go.Am
open Go
def Y2 (a b:Nat):Nat:=Bool.rec (motive:=fun _=>Nat) b a (Nat.ble a b)
theorem Qc9 (a b:Nat):Y2 a b=min a b:=by
  unfold Y2;cases h:Nat.ble a b with
  | true=>rw [Qk] at h;show a=_;omega
  | false => have : ¬ a ≤ b := fun h' => by rw [← Qk, h] at h'; cases h'
             show b=_;omega
def Ve (x:Int) (n:Nat):Int:=Int.rec (motive:=fun _=>Int) (fun m=>Int.ofNat (Nat.shiftRight m n)) (fun m=>Int.negSucc (Nat.shiftRight m n)) x
def DM (kk:IntKind) (x y:Int):Int:=Qd kk (Int.ofNat (Nat.land (toU kk x) (toU kk y)))
def Uv (kk:IntKind) (x y:Int):Int:=Qd kk (Int.ofNat (Nat.lor (toU kk x) (toU kk y)))
def VF (kk:IntKind) (x y:Int):Int:=Qd kk (Int.ofNat (Nat.xor (toU kk x) (toU kk y)))
def ND (kk:IntKind) (x y:Int):Int:=Qd kk (Int.ofNat (Nat.land (toU kk x) (Nat.sub (Nat.sub (KO kk) 1) (toU kk y))))
def VQ (kk:IntKind) (x:Int) (n:Nat):Int:=Qd kk (Int.mul x (Int.ofNat (Nat.shiftLeft 1 (Y2 n kk.bits))))
def pickV (c a b:AV) (k:AV→Prop):Prop:=asB c fun c=>br c (k a) (k b)
def Q3 (c a b:AV) (k:Bool→Prop):Prop:=asB c fun c=>br c (asB a k) (asB b k)
def pickI (kk:IntKind) (c a b:AV) (k:Int→Prop):Prop:=asB c fun c=>br c (asI kk a k) (asI kk b k)
def pickS (c a b:AV) (k:Str→Prop):Prop:=asB c fun c=>br c (asS a k) (asS b k)
def Qc0 (kd:Kd) (c a b:AV) (k:AV→Prop):Prop :=
  match kd with
  | .bool=>Q3 c a b fun v=>k (.bool v)
  | .int kk=>pickI kk c a b fun v=>k (.int kk v)
  | .str=>pickS c a b fun v=>k (.str v)
  | _=>pickV c a b k
def QQ:AV→Prop→Prop:=@AV.rec (fun _=>Prop→P2) (fun _=>Unit)
  (fun _=>False) (fun _ _=>False) (fun _ _ _=>False) (fun _ _=>False) (fun _=>False) (fun _ _ k=>k) (fun _=>False) (fun _ _ _ _ _ _ _=>False) (fun _=>False) (fun _ _=>False)
  (fun fn _ _ _ _ k=>Fn.rec (motive:=fun _=>Prop) (fun _=>k) (fun _=>False) (fun _ _=>False) (fun _ _ _ _=>False) (fun _=>False) fn) (fun _=>False) (fun _ _ _ k=>k) (fun _=>False) (fun _ _ _=>False) (fun _ _ _=>False) (fun _ _=>False) (fun _ _ _=>False) () (fun _ _ _ _=>())
def nilB (c:Nat) (v:AV) (k:Bool→Prop):Prop:=br (Nat.beq (ZQ v) c) (k true) (ck (Nat.beq (ZQ v) (Nat.succ c)) (k false))
def Vo:Kd→Nat
  | .ptr _=>0
  | .slice _=>2
  | .map _ _=>4
  | .func=>6
  | .iface=>10
  | _=>100
def Jw (kd:Kd) (x:Operand) (ρ:Operand→AV):Bool :=
  match x with
  | .const _=>Nat.beq (ZQ (ρ x)) (Vo kd)
  | _=>false
def obK (o:Option AV) (k:Bool→Prop):Prop:=op' o fun v=>asB v k
def binK (T:Ty) (op:BinOp) (t:Nat) (x y:Operand) (ρ:Operand→AV) (k:AV→Prop):Prop :=
  match (T t).kd with
  | .int kk => match op with
    | .add=>asI kk (ρ x) fun a=>asI kk (ρ y) fun b=>fI (Qd kk (Int.add a b)) fun z=>k (.int kk z)
    | .sub=>asI kk (ρ x) fun a=>asI kk (ρ y) fun b=>fI (Qd kk (Int.sub a b)) fun z=>k (.int kk z)
    | .mul=>asI kk (ρ x) fun a=>asI kk (ρ y) fun b=>fI (Qd kk (Int.mul a b)) fun z=>k (.int kk z)
    | .quo=>asI kk (ρ x) fun a=>asI kk (ρ y) fun b=>ck (Bool.not (eqI b 0)) (fI (Qd kk (Int.tdiv a b)) fun z=>k (.int kk z))
    | .rem=>asI kk (ρ x) fun a=>asI kk (ρ y) fun b=>ck (Bool.not (eqI b 0)) (fI (Int.tmod a b) fun z=>k (.int kk z))
    | .eql=>asI kk (ρ x) fun a=>asI kk (ρ y) fun b=>fB (eqI a b) fun c=>k (.bool c)
    | .neq=>asI kk (ρ x) fun a=>asI kk (ρ y) fun b=>fB (Bool.not (eqI a b)) fun c=>k (.bool c)
    | .lss=>asI kk (ρ x) fun a=>asI kk (ρ y) fun b=>fB (ltI a b) fun c=>k (.bool c)
    | .leq=>asI kk (ρ x) fun a=>asI kk (ρ y) fun b=>fB (Bool.not (ltI b a)) fun c=>k (.bool c)
    | .gtr=>asI kk (ρ x) fun a=>asI kk (ρ y) fun b=>fB (ltI b a) fun c=>k (.bool c)
    | .geq=>asI kk (ρ x) fun a=>asI kk (ρ y) fun b=>fB (Bool.not (ltI a b)) fun c=>k (.bool c)
    | .and=>asI kk (ρ x) fun a=>asI kk (ρ y) fun b=>fI (DM kk a b) fun z=>k (.int kk z)
    | .or=>asI kk (ρ x) fun a=>asI kk (ρ y) fun b=>fI (Uv kk a b) fun z=>k (.int kk z)
    | .xor=>asI kk (ρ x) fun a=>asI kk (ρ y) fun b=>fI (VF kk a b) fun z=>k (.int kk z)
    | .andNot=>asI kk (ρ x) fun a=>asI kk (ρ y) fun b=>fI (ND kk a b) fun z=>k (.int kk z)
    | .shl=>asI kk (ρ x) fun a=>YU (ρ y) fun n=>fI (VQ kk a n) fun z=>k (.int kk z)
    | .shr=>asI kk (ρ x) fun a=>YU (ρ y) fun n=>fI (Ve a (Y2 n kk.bits)) fun z=>k (.int kk z)
  | .str => match op with
    | .add=>asS (ρ x) fun a=>asS (ρ y) fun b=>ck (Nat.ble (Nat.add a.len b.len) 9223372036854775807) (fS (a.cat b) fun s=>k (.str s))
    | .eql=>asS (ρ x) fun a=>asS (ρ y) fun b=>fB (a.beq b) fun c=>k (.bool c)
    | .neq=>asS (ρ x) fun a=>asS (ρ y) fun b=>fB (Bool.not (a.beq b)) fun c=>k (.bool c)
    | .lss=>asS (ρ x) fun a=>asS (ρ y) fun b=>fB (a.lt b) fun c=>k (.bool c)
    | .leq=>asS (ρ x) fun a=>asS (ρ y) fun b=>fB (Bool.not (b.lt a)) fun c=>k (.bool c)
    | .gtr=>asS (ρ x) fun a=>asS (ρ y) fun b=>fB (b.lt a) fun c=>k (.bool c)
    | .geq=>asS (ρ x) fun a=>asS (ρ y) fun b=>fB (Bool.not (a.lt b)) fun c=>k (.bool c)
    | _=>False
  | .bool => match op with
    | .eql=>asB (ρ x) fun a=>asB (ρ y) fun b=>fB (Bool.rec (Bool.not b) b a) fun c=>k (.bool c)
    | .neq=>asB (ρ x) fun a=>asB (ρ y) fun b=>fB (Bool.not (Bool.rec (Bool.not b) b a)) fun c=>k (.bool c)
    | _=>False
  | kd => match op with
    | .eql => match Jw kd y ρ with
      | true=>nilB (Vo kd) (ρ x) fun c=>k (.bool c)
      | false => match Jw kd x ρ with
        | true=>nilB (Vo kd) (ρ y) fun c=>k (.bool c)
        | false=>obK (Kk T .eql t (WO x || WO y) (ρ x) (ρ y)) fun c=>k (.bool c)
    | .neq => match Jw kd y ρ with
      | true=>nilB (Vo kd) (ρ x) fun c=>fB (Bool.not c) fun c=>k (.bool c)
      | false => match Jw kd x ρ with
        | true=>nilB (Vo kd) (ρ y) fun c=>fB (Bool.not c) fun c=>k (.bool c)
        | false=>obK (Kk T .neq t (WO x || WO y) (ρ x) (ρ y)) fun c=>k (.bool c)
    | _=>False
def faK (off:Nat) (p:AV) (k:AV→Prop):Prop:=Qcy p (fun id o=>fN (Nat.add o off) fun o=>k (.ptr id o)) fun id o=>fN (Nat.add o off) fun o=>k (.glob id o)
def Dn (kd:Kd) (size off:Nat) (cs:List AV) (k:AV→Prop):Prop :=
  match kd.agg with
  | true=>op' (Z4 size (Yh off cs)) fun l=>k (.agg l)
  | false=>op' (Q8 cs off) fun v=>Wo kd v k
def ixK (size:Nat) (s i:AV) (k:AV→Prop):Prop:=Gw s False fun id off len _ _ _=>YU i fun i=>ck (Nat.blt i len) (fN (Nat.add off (Nat.mul i size)) fun o=>k (.ptr id o))
def QdU (n size:Nat) (p i:AV) (k:AV→Prop):Prop:=Qcy p (fun id off=>YU i fun i=>ck (Nat.blt i n) (fN (Nat.add off (Nat.mul i size)) fun o=>k (.ptr id o))) fun id off=>YU i fun i=>ck (Nat.blt i n) (fN (Nat.add off (Nat.mul i size)) fun o=>k (.glob id o))
def WN (s i:AV) (k:Int→Prop):Prop:=asS s fun s=>YU i fun i=>ck (Nat.blt i s.len) (fN (s.get i) fun c=>k (Int.ofNat c))
def XY (d:Nat) (x:Option AV) (k:Nat→Prop):Prop :=
  match x with
  | none=>k d
  | some v=>YU v k
def Qa5 (s:AV) (lo hi:Option AV) (k:Str→Prop):Prop:=asS s fun s=>XY 0 lo fun l=>XY s.len hi fun u=>ck (Nat.ble u s.len) (ck (Nat.ble l u) (fS (s.sub l u) k))
def slK (size:Nat) (v:AV) (lo hi:Option AV) (k:AV→Prop):Prop :=
  Gw v (XY 0 lo fun l=>XY 0 hi fun u=>ck (Nat.beq l 0) (ck (Nat.beq u 0) (k .nils))) fun id off len cap es ex=>
    XY 0 lo fun l=>XY len hi fun u=>ck (Nat.ble u cap) (ck (Nat.ble l u) (ck (Nat.beq es size) (br (Nat.beq cap l)
      (fN (Nat.sub u l) fun n=>k (.slice id off n 0 es ex))
      (fN (Nat.add off (Nat.mul l size)) fun o=>fN (Nat.sub u l) fun n=>fN (Nat.sub cap l) fun c=>k (.slice id o n c es ex)))))
def VI (T:Ty) (ρ:Operand→AV) (place:Nat→Option (Nat × Nat)):List (Nat × Operand)→List AV→(List AV→Prop)→Prop
  | [],cs,k=>k cs
  | (i, x) :: r, cs, k => match place i with
    | some (off, t) => match (T t).kd.agg with
      | true=>asAgg (ρ x) fun xs=>ck (Nat.beq xs.length (T t).size) (op' (Q7 off xs cs) fun cs=>VI T ρ place r cs k)
      | false => match Nat.beq 1 (T t).size with
        | true => match (T t).kd with
          | .bool=>asB (ρ x) fun v=>op' (Q7 off [.bool v] cs) fun cs=>VI T ρ place r cs k
          | .int kk=>asI kk (ρ x) fun v=>op' (Q7 off [.int kk v] cs) fun cs=>VI T ρ place r cs k
          | .str=>asS (ρ x) fun v=>op' (Q7 off [.str v] cs) fun cs=>VI T ρ place r cs k
          | _=>ck (ZB (ρ x)) (op' (Q7 off [ρ x] cs) fun cs=>VI T ρ place r cs k)
        | false=>False
    | none=>False
def Qar (T : Ty) (fs : List (Nat × Nat)) (i : Nat) : Option (Nat × Nat) :=
  match fs[i]? with
  | some (off, t) => match (T t).kd.known with
    | true=>some (off,t)
    | false=>none
  | none=>none
def Qas (T:Ty) (e:Nat) (i:Nat):Option (Nat × Nat):=some (Nat.mul i (T e).size,e)
def Qdl {α:Type} (a b:List α) (k:List α→Prop):Prop:=List.rec (motive:=fun _=>(List α→Prop)→Prop) (fun k=>k b) (fun x _ ih k=>ih fun r=>k (x::r)) a k
theorem lappK_eq {α:Type} (a b:List α) (k:List α→Prop):Qdl a b k=k (Qbz a b):=by
  induction a generalizing k with
  | nil=>rfl
  | cons x a ih=>show (Qdl a b fun r=>k (x::r))=_;rw [ih];rfl
def Y1 (v:AV) (h:H) (k:Str→Prop):Prop:=Gw v (k ⟨0,0⟩) fun id off len _ _ _=>ZX (h.get id) (fun _ _ _=>False) fun _ _ _ s=>fN (Nat.add off len) fun e=>ck (Nat.ble e s.len) (fS (s.sub off e) k)
def ldK (T:Ty) (t:Nat) (p:AV) (h:H) (k:AV→Prop):Prop :=
  match (T t).kd with
  | .bool=>ldB p h fun b=>k (.bool b)
  | .int kk=>ldI kk p h fun n=>k (.int kk n)
  | .str=>ldS p h fun s=>k (.str s)
  | .struct _=>ldN (T t).size p h fun l=>k (.agg l)
  | .arr _ _=>ldN (T t).size p h fun l=>k (.agg l)
  | .other=>False
  | _=>ldV p h k
def stK (T:Ty) (t:Nat) (p x:AV) (h:H) (k:H→Prop):Prop :=
  match (T t).kd.known && Nat.ble 0 (T t).size with
  | true => match (T t).kd.agg with
    | true=>asAgg x fun xs=>stN (T t).size p xs h k
    | false => match Nat.beq 1 (T t).size with
      | true=>stV p x h k
      | false=>False
  | false=>False
def Qb9 (kd:Kd) (x:AV) (h:H) (k:Str→Prop):Prop :=
  match kd with
  | .str=>asS x k
  | _=>Y1 x h k
def Qb8 (size:Nat) (x:AV) (h:H) (k:Nat→List AV→Prop):Prop:=Gw x (k 0 []) fun id off len _ _ _=>ZX (h.get id) (fun _ _ cs=>op' (Z4 (Nat.mul len size) (Yh off cs)) fun l=>k len l) fun _ _ _ _=>False
def apB (kd:Kd) (e:Nat) (s x:AV) (h:H) (k:AV→H→Prop):Prop:=Qb9 kd x h fun src=>
  Gw s (br (Nat.beq src.len 0) (k .nils h) (ck (Nat.ble src.len Qe) (Qz (.bytes e 0 false src) h fun i h'=>k (.slice i 0 src.len src.len 1 false) h')))
    fun id off len cap es ex => ZX (h.get id) (fun _ _ _ => False) fun t fz sg str => fN (Nat.add len src.len) fun need => fN (Nat.add off len) fun ol => br (Nat.ble need cap)
      (br (Nat.beq src.len 0) (k (.slice id off len cap es ex) h) (ck (Nat.ble (Nat.add off need) str.len) (ck (Nat.ble fz ol)
        (fS (Str.cat (Str.cat (str.sub 0 ol) src) (str.sub (Nat.add off need) str.len)) fun s'=>Yy id (.bytes t fz sg s') h fun h'=>k (.slice id off need cap es ex) h'))))
      (ck (Nat.ble need Qe) (ck (Nat.ble ol str.len) (fS (Str.cat (str.sub off ol) src) fun s'=>br ex
        (Qz (.bytes e 0 false s') h fun i h'=>k (.slice i 0 need need 1 false) h')
        (ck (Nat.beq es 1) (ck (Nat.beq t e) (ck (br' (Nat.blt 0 cap) (Nat.ble fz ol) (Nat.beq fz 0)) (Yy id .dead h fun h1=>Qz (.bytes e (DR fz off) sg s') h1 fun i h'=>k (.slice i 0 need need 1 false) h')))))))
where
  br' (c a b:Bool):Bool:=Bool.rec (motive:=fun _=>Bool) b a c
def apC (e size bytes:Nat) (s x:AV) (h:H) (k:AV→H→Prop):Prop:=Qb8 size x h fun n src=>
  Gw s (br (Nat.beq n 0) (k .nils h) (ck (Nat.ble (Nat.mul n bytes) Qe) (Qz (.cells false e src) h fun i h'=>k (.slice i 0 n n size false) h')))
    fun id off len cap es ex => ZX (h.get id) (fun mv t cs => fN (Nat.add len n) fun need => br (Nat.ble need cap)
      (br (Nat.beq n 0) (k (.slice id off len cap es ex) h) (ck (ZV src) (op' (Q7 (Nat.add off (Nat.mul len size)) src cs) fun cs'=>Yy id (.cells mv t cs') h fun h'=>k (.slice id off need cap es ex) h')))
      (ck (Nat.ble (Nat.mul need bytes) Qe) (op' (Z4 (Nat.mul len size) (Yh off cs)) fun old=>Qdl old src fun new=>br ex
        (Qz (.cells false e new) h fun i h'=>k (.slice i 0 need need size false) h')
        (ck (Nat.beq es size) (ck (Nat.beq t e) (ck (ZV src) (Yy id .dead h fun h1=>Qz (.cells true e new) h1 fun i h'=>k (.slice i 0 need need size false) h')))))))
      fun _ _ _ _=>False
def Y3 (T:Ty) (k:Nat) (m i v:AV) (h:H):Option (Nat × Blk) :=
  match m with
  | .map id => match h.get id with
    | .amap es clock => match (T k).kd.scalar with
      | true => match Vy (T k).kd i es 0 with
        | some (some (j,_,n))=>some (id,.amap (XB es j (i,v,n)) clock)
        | some none=>some (id,.amap (Qbz es [(i,v,clock)]) (Nat.succ clock))
        | none=>none
      | false=>none
    | .smap es => match (T k).kd.scalar with
      | true => match ZU (T k).kd i es with
        | some (some _)=>some (id,.smap (WW (T k).kd i v es))
        | some none=>some (id,.smap (Gt (i,v) es))
        | none=>none
      | false=>none
    | _=>none
  | _=>none
def Uu (T:Ty) (k:Nat) (m i:AV) (h:H):Option (Option (Nat × Blk)) :=
  match (T k).kd.scalar with
  | true => match m with
    | .nilm=>some none
    | .map id => match h.get id with
      | .amap es clock => match Vy (T k).kd i es 0 with
        | some (some (j,_,_))=>some (some (id,.amap (QeA j es) clock))
        | some none=>some (some (id,.amap es clock))
        | none=>none
      | .smap es => match ZU (T k).kd i es with
        | some (some _)=>some (some (id,.smap (NQ (T k).kd i es)))
        | some none=>some (some (id,.smap es))
        | none=>none
      | _=>none
    | _=>none
  | false=>none
def K8 (G:Gam) (f:AV) (args:List AV) (h:H) (k:AV→H→Prop):Prop :=
  match f with
  | .func (.func g) first captured=>G.fn g (first++(args++captured)) h k
  | .yield id=>Xh G id args h k
  | _=>False
def opF (T:Ty) (G:Gam) (ty:Nat) (o:Op) (ρ:Operand→AV) (h:H) (k:AV→H→Prop):Prop :=
  match o with
  | .move x=>k (ρ x) h
  | .assign x=>k (ρ x) h
  | .pick c a b=>Qc0 (T ty).kd (ρ c) (ρ a) (ρ b) fun v=>k v h
  | .nilCheck x=>QQ (ρ x) (k (ρ x) h)
  | .binOp op t x y _=>binK T op t x y ρ fun v=>k v h
  | .unOp op _ x => match op with
    | .not=>asB (ρ x) fun b=>fB (Bool.not b) fun b=>k (.bool b) h
    | op=>op' (aUn op (ρ x)) fun v=>Wo (T ty).kd v fun v=>k v h
  | .convert s d x => match (T s).kd, (T d).kd with
    | .int k1,.int k2=>asI k1 (ρ x) fun n=>fI (Qd k2 n) fun z=>k (.int k2 z) h
    | .str,.str=>asS (ρ x) fun s=>k (.str s) h
    | .slice e, .str => match (T e).kd.isU8 with
      | true=>Y1 (ρ x) h fun s=>k (.str s) h
      | false=>False
    | .str, .slice e => match (T e).kd.isU8 with
      | true=>asS (ρ x) fun s=>Qz (.bytes e 0 true s) h fun n h'=>k (.slice n 0 s.len s.len 1 false) h'
      | false=>False
    | _,_=>opX T G (.convert s d x) ρ h k
  | .fieldAddr t x f => match VJ T t f with
    | some (off,_)=>faK off (ρ x) fun v=>k v h
    | none=>False
  | .field t x f => match VJ T t f with
    | some (off,ft)=>asAgg (ρ x) fun cs=>Dn (T ft).kd (T ft).size off cs fun v=>k v h
    | none=>False
  | .indexAddr t x i => match (T t).kd with
    | .slice e => match (T e).kd.known with
      | true=>ixK (T e).size (ρ x) (ρ i) fun v=>k v h
      | false=>False
    | .arr n e => match (T e).kd.known with
      | true=>QdU n (T e).size (ρ x) (ρ i) fun v=>k v h
      | false=>False
    | _=>False
  | .index t x i => match (T t).kd with
    | .str=>WN (ρ x) (ρ i) fun n=>k (.int .u8 n) h
    | .arr n e => match (T e).kd.known with
      | true=>asAgg (ρ x) fun cs=>YU (ρ i) fun i=>ck (Nat.blt i n) (fN (Nat.mul i (T e).size) fun o=>Dn (T e).kd (T e).size o cs fun v=>k v h)
      | false=>False
    | _=>False
  | .slice t x lo hi none => match (T t).kd with
    | .str=>Qa5 (ρ x) (lo.map ρ) (hi.map ρ) fun s=>k (.str s) h
    | .slice e => match (T e).kd.known with
      | true=>slK (T e).size (ρ x) (lo.map ρ) (hi.map ρ) fun v=>k v h
      | false=>False
    | .arr _ _=>opX T G (.slice t x lo hi none) ρ h k
    | _=>False
  | .extract x i=>asTup (ρ x) fun vs=>op' (Q8 vs i) fun v=>Wo (T ty).kd v fun v=>k v h
  | .build t ps => match (T t).kd with
    | .struct fs => match fs.all (fun p => (T p.2).kd.known) with
      | true=>VI T ρ (Qar T fs) ps.toList (T t).zero fun cs=>k (.agg cs) h
      | false=>False
    | .arr _ e => match (T e).kd.known with
      | true=>VI T ρ (Qas T e) ps.toList (T t).zero fun cs=>k (.agg cs) h
      | false=>False
    | _=>False
  | .load t a=>ldK T t (ρ a) h fun v=>k v h
  | .store t a x=>stK T t (ρ a) (ρ x) h (k .junk)
  | .alloc e => match (T e).kd.known with
    | true=>Qz (.cells false e (T e).zero) h fun n h'=>k (.ptr n 0) h'
    | false=>False
  | .box e x => match (T e).kd.agg with
    | true=>asAgg (ρ x) fun cs=>Qz (.cells false e cs) h fun n h'=>k (.ptr n 0) h'
    | false=>ck (ZB (ρ x)) (Qz (.cells false e [ρ x]) h fun n h'=>k (.ptr n 0) h')
  | .buildSlice t n ps => match (T t).kd with
    | .slice e => match Kx T e && Nat.ble 0 n && Nat.ble (Nat.mul n (T e).size) 16777216 with
      | true=>VI T ρ (Qas T e) ps.toList (Ua n (T e).zero) fun cs=>op' (Wd (T e).kd.isU8 e cs) fun b=>Qz b h fun i h'=>k (.slice i 0 n n (T e).size true) h'
      | false=>False
    | _=>False
  | .makeSlice t l c=>op' (opA T (.makeSlice t l c) ρ) fun p=>Qz p.1 h fun n h'=>k (p.2 n) h'
  | .lookup t x i ok => match (T t).kd with
    | .map kt e=>op' (Q5 T kt e ok (ρ x) (ρ i) h) fun v=>Wo (T ty).kd v fun v=>k v h
    | _=>False
  | .mapUpdate t m i v => match (T t).kd with
    | .map kt _=>op' (Y3 T kt (ρ m) (ρ i) (ρ v) h) fun p=>Yy p.1 p.2 h (k .junk)
    | _=>False
  | .makeMap _ none=>Qz (.smap []) h fun n h'=>k (.map n) h'
  | .range t x => match (T t).kd with
    | .map _ _=>VN (ρ x) h k
    | _=>False
  | .next i false=>JT (ρ i) h k
  | .call { callee := .builtin .len, args, argTypes } => match args.toList, argTypes.toList with
    | [x], [t] => match (T t).kd with
      | .str=>asS (ρ x) fun s=>k (.int .i64 (Int.ofNat s.len)) h
      | .slice _=>Gw (ρ x) (k (.int .i64 (Int.ofNat 0)) h) fun _ _ len _ _ _=>k (.int .i64 (Int.ofNat len)) h
      | .map _ _=>op' (JI (ρ x) h) fun v=>k v h
      | _=>False
    | _,_=>False
  | .call { callee := .builtin .append, args, argTypes } => match args.toList, argTypes.toList with
    | [s, x], [t, t2] => match (T t).kd with
      | .slice e => match Kx T e && Vd (T t2).kd with
        | true => match (T e).kd.isU8 && Nat.beq (T e).size 1 && Nat.beq (T e).bytes 1 with
          | true=>apB (T t2).kd e (ρ s) (ρ x) h k
          | false=>apC e (T e).size (T e).bytes (ρ s) (ρ x) h k
        | false=>False
      | _=>False
    | _,_=>False
  | .call { callee := .builtin .delete, args, argTypes } => match args.toList, argTypes.toList with
    | [m, i], [t, _] => match (T t).kd with
      | .map kt _ => op' (Uu T kt (ρ m) (ρ i) h) fun p => match p with
        | some q=>Yy q.1 q.2 h (k (.tuple []))
        | none=>k (.tuple []) h
      | _=>False
    | _,_=>False
  | .call { callee:=.builtin .min,args,argTypes }=>op' (opP T (.call { callee:=.builtin .min,args,argTypes }) ρ) fun v=>Wo (T ty).kd v fun v=>k v h
  | .call { callee:=.builtin .max,args,argTypes }=>op' (opP T (.call { callee:=.builtin .max,args,argTypes }) ρ) fun v=>Wo (T ty).kd v fun v=>k v h
  | .call { callee:=.value f,args,.. }=>K8 G (ρ f) (args.toList.map ρ) h fun v h'=>Wo (T ty).kd v fun v=>k v h'
  | .typeAssert x _ a ok=>op' (Wl T a ok (ρ x)) fun v=>Wo (T ty).kd v fun v=>k v h
  | o=>opX T G o ρ h k
end Go.Am
namespace Go.Am
open Go
theorem pickK_imp {kd:Kd} {c a b:AV} {k:AV→Prop} (h:Qc0 kd c a b k):∃ v,QdL c a b=some v∧k v:=by
  have fin:∀ {b':Bool} {P1 P2:Prop},c=.bool b'→br b' P1 P2→(P1→k a)→(P2→k b)→∃ v,QdL c a b=some v∧k v:=fun hc g h1 h2=>by
    rw [Yf] at g
    rcases g with ⟨rfl,g⟩ | ⟨rfl,g⟩
    · exact ⟨a,by rw [hc];rfl,h1 g⟩
    · exact ⟨b,by rw [hc];rfl,h2 g⟩
  unfold Qc0 at h
  split at h
  · unfold Q3 at h; rw [Z7] at h; obtain ⟨b', hc, h⟩ := h
    exact fin hc h (fun g=>by rw [Z7] at g;obtain ⟨_,e,g⟩:=g;rw [e];exact g) (fun g=>by rw [Z7] at g;obtain ⟨_,e,g⟩:=g;rw [e];exact g)
  · unfold pickI at h; rw [Z7] at h; obtain ⟨b', hc, h⟩ := h
    exact fin hc h (fun g=>by rw [QC] at g;obtain ⟨_,e,g⟩:=g;rw [e];exact g) (fun g=>by rw [QC] at g;obtain ⟨_,e,g⟩:=g;rw [e];exact g)
  · unfold pickS at h; rw [Z7] at h; obtain ⟨b', hc, h⟩ := h
    exact fin hc h (fun g=>by rw [ZJ] at g;obtain ⟨_,e,g⟩:=g;rw [e];exact g) (fun g=>by rw [ZJ] at g;obtain ⟨_,e,g⟩:=g;rw [e];exact g)
  · unfold pickV at h; rw [Z7] at h; obtain ⟨b', hc, h⟩ := h
    exact fin hc h id id
theorem okNil_imp {v:AV} {k:Prop} (h:QQ v k):X7 v=some v∧k:=by
  cases v with
  | func fn a b=>cases fn <;> first | exact ⟨rfl,h⟩ | exact h.elim
  | ptr=>exact ⟨rfl,h⟩
  | iface=>exact ⟨rfl,h⟩
  | _=>exact h.elim
theorem binInt {T:Ty} {op:BinOp} {t:Nat} {con:Bool} {kk:IntKind} {a b:Int} (h1:op≠.shl) (h2:op≠.shr):Kk T op t con (.int kk a) (.int kk b)=Qcu op kk a b:=by
  have hk:keq kk kk=true:=W3.2 rfl
  cases op <;> first | exact absurd rfl h1 | exact absurd rfl h2 | (simp [Kk,hk])
theorem binStr {T:Ty} {op:BinOp} {t:Nat} {con:Bool} {a b:Str}:Kk T op t con (.str a) (.str b)=QbZ op a b:=by
  cases op <;> rfl
theorem Wu {kd:Kd} {v:AV} (h:ZQ v=Vo kd):(v=.nilp∧∃ e,kd=.ptr e)∨(v=.nils∧∃ e,kd=.slice e)∨(v=.nilm∧∃ a b,kd=.map a b)∨(v=.nilf∧kd=.func)∨(v=.nili∧kd=.iface):=by
  cases kd <;> cases v <;> simp [ZQ,Vo] at h ⊢
theorem Nv {kd:Kd} {v:AV} (h:ZQ v=Nat.succ (Vo kd)):(∃ i o,v=.ptr i o)∧(∃ e,kd=.ptr e)∨(∃ a b c d e f,v=.slice a b c d e f)∧(∃ e,kd=.slice e)∨(∃ i,v=.map i)∧(∃ a b,kd=.map a b)∨(∃ a b c,v=.func a b c)∧kd=.func∨(∃ a b,v=.iface a b)∧kd=.iface:=by
  cases kd <;> cases v <;> simp [ZQ,Vo] at h ⊢
theorem Qe7 {T:Ty} {t:Nat} {a b:AV} {k:Bool→Prop} (hb:ZQ b=Vo (T t).kd) (h:nilB (Vo (T t).kd) a k):∃ c,YC T 20 t a b=some c∧k c:=by
  unfold nilB at h
  rw [Yf] at h
  rcases h with ⟨h1,h⟩ | ⟨_,h⟩
  · rw [Nat.beq_eq] at h1
    refine ⟨true,?_,h⟩
    rcases Wu hb with ⟨rfl,e,hk⟩ | ⟨rfl,e,hk⟩ | ⟨rfl,e,f,hk⟩ | ⟨rfl,hk⟩ | ⟨rfl,hk⟩ <;> rcases Wu h1 with ⟨rfl,e',hk'⟩ | ⟨rfl,e',hk'⟩ | ⟨rfl,e',f',hk'⟩ | ⟨rfl,hk'⟩ | ⟨rfl,hk'⟩ <;>
      first | (rw [hk] at hk';cases hk';done) | simp [YC,hk]
  · rw [QN, Nat.beq_eq] at h
    obtain ⟨h1,h⟩:=h
    refine ⟨false,?_,h⟩
    rcases Wu hb with ⟨rfl,e,hk⟩ | ⟨rfl,e,hk⟩ | ⟨rfl,e,f,hk⟩ | ⟨rfl,hk⟩ | ⟨rfl,hk⟩ <;> rcases Nv h1 with ⟨⟨_,_,rfl⟩,e',hk'⟩ | ⟨⟨_,_,_,_,_,_,rfl⟩,e',hk'⟩ | ⟨⟨_,rfl⟩,e',f',hk'⟩ | ⟨⟨_,_,_,rfl⟩,hk'⟩ | ⟨⟨_,_,rfl⟩,hk'⟩ <;>
      first | (rw [hk] at hk';cases hk';done) | simp [YC,hk]
theorem Qe8 {T:Ty} {t:Nat} {a b:AV} {k:Bool→Prop} (hb:ZQ b=Vo (T t).kd) (h:nilB (Vo (T t).kd) a k):∃ c,YC T 20 t b a=some c∧k c:=by
  unfold nilB at h
  rw [Yf] at h
  rcases h with ⟨h1,h⟩ | ⟨_,h⟩
  · rw [Nat.beq_eq] at h1
    refine ⟨true,?_,h⟩
    rcases Wu hb with ⟨rfl,e,hk⟩ | ⟨rfl,e,hk⟩ | ⟨rfl,e,f,hk⟩ | ⟨rfl,hk⟩ | ⟨rfl,hk⟩ <;> rcases Wu h1 with ⟨rfl,e',hk'⟩ | ⟨rfl,e',hk'⟩ | ⟨rfl,e',f',hk'⟩ | ⟨rfl,hk'⟩ | ⟨rfl,hk'⟩ <;>
      first | (rw [hk] at hk';cases hk';done) | simp [YC,hk]
  · rw [QN, Nat.beq_eq] at h
    obtain ⟨h1,h⟩:=h
    refine ⟨false,?_,h⟩
    rcases Wu hb with ⟨rfl,e,hk⟩ | ⟨rfl,e,hk⟩ | ⟨rfl,e,f,hk⟩ | ⟨rfl,hk⟩ | ⟨rfl,hk⟩ <;> rcases Nv h1 with ⟨⟨_,_,rfl⟩,e',hk'⟩ | ⟨⟨_,_,_,_,_,_,rfl⟩,e',hk'⟩ | ⟨⟨_,rfl⟩,e',f',hk'⟩ | ⟨⟨_,_,_,rfl⟩,hk'⟩ | ⟨⟨_,_,rfl⟩,hk'⟩ <;>
      first | (rw [hk] at hk';cases hk';done) | simp [YC,hk]
theorem QaP {T:Ty} {t:Nat} {a b:AV} {c:Bool} (h:YC T 20 t a b=some c) (hn:∀ kk x kk' y,a=.int kk x→b=.int kk' y→False) (hs:∀ x y,a=.str x→b=.str y→False) (con:Bool) (hc:a=.nili→b=.nili→con=true):Kk T .eql t con a b=some (.bool c):=by
  unfold Kk
  split <;> first | contradiction | skip
  · exact (hn _ _ _ _ rfl rfl).elim
  · exact (hs _ _ rfl rfl).elim
  · rw [hc rfl rfl];simp [h]
  · simp [h]
theorem QaO {T:Ty} {t:Nat} {a b:AV} {c:Bool} (h:YC T 20 t a b=some c) (hn:∀ kk x kk' y,a=.int kk x→b=.int kk' y→False) (hs:∀ x y,a=.str x→b=.str y→False) (con:Bool) (hc:a=.nili→b=.nili→con=true):Kk T .neq t con a b=some (.bool (Bool.not c)):=by
  unfold Kk
  split <;> first | contradiction | skip
  · exact (hn _ _ _ _ rfl rfl).elim
  · exact (hs _ _ rfl rfl).elim
  · rw [hc rfl rfl];simp [h]
  · simp [h]
theorem VD {kd:Kd} {x:Operand} {ρ:Operand→AV} (h:Jw kd x ρ=true):WO x=true∧ZQ (ρ x)=Vo kd:=by
  unfold Jw at h
  split at h
  · rw [Nat.beq_eq] at h;exact ⟨rfl,h⟩
  · cases h
theorem GG {kd:Kd} {v:AV} (h:ZQ v=Vo kd):(∀ kk x,v≠.int kk x)∧(∀ x,v≠.str x):=by
  rcases Wu h with ⟨rfl,_⟩ | ⟨rfl,_⟩ | ⟨rfl,_⟩ | ⟨rfl,_⟩ | ⟨rfl,_⟩ <;> exact ⟨by simp,by simp⟩
theorem int_arith {T:Ty} {op:BinOp} {t:Nat} {con:Bool} {kk:IntKind} {x y:AV} {P:Int→Int→Prop} {k:AV→Prop} (h:asI kk x fun a=>asI kk y fun b=>P a b) (h1:op≠.shl) (h2:op≠.shr)
    (hp:∀ a b,P a b→∃ r,Qcu op kk a b=some r∧k r):∃ r,Kk T op t con x y=some r∧k r:=by
  rw [QC] at h;obtain ⟨a,rfl,h⟩:=h
  rw [QC] at h;obtain ⟨b,rfl,h⟩:=h
  obtain ⟨r,e,hk⟩:=hp a b h
  exact ⟨r,by rw [binInt h1 h2];exact e,hk⟩
theorem Dc {T:Ty} {op:BinOp} {t:Nat} {con:Bool} {x y:AV} {P:Str→Str→Prop} {k:AV→Prop} (h:asS x fun a=>asS y fun b=>P a b)
    (hp:∀ a b,P a b→∃ r,QbZ op a b=some r∧k r):∃ r,Kk T op t con x y=some r∧k r:=by
  rw [ZJ] at h;obtain ⟨a,rfl,h⟩:=h
  rw [ZJ] at h;obtain ⟨b,rfl,h⟩:=h
  obtain ⟨r,e,hk⟩:=hp a b h
  exact ⟨r,by rw [binStr];exact e,hk⟩
theorem binK_imp {T : Ty} {op : BinOp} {t : Nat} {x y : Operand} {ρ : Operand → AV} {k : AV → Prop} (h : binK T op t x y ρ k) : ∃ r, Kk T op t (WO x || WO y) (ρ x) (ρ y) = some r ∧ k r := by
  unfold binK at h
  split at h
  · rename_i kk hkd
    split at h
    case h_16=>
      rw [QC] at h;obtain ⟨a,ha,h⟩:=h
      rw [We] at h;obtain ⟨k2,n,hn,h⟩:=h
      rw [Qo] at h
      refine ⟨_,?_,h⟩
      rw [ha,hn];unfold VQ;rw [Qc9];rfl
    case h_17=>
      rw [QC] at h;obtain ⟨a,ha,h⟩:=h
      rw [We] at h;obtain ⟨k2,n,hn,h⟩:=h
      rw [Qo] at h
      refine ⟨_,?_,h⟩
      rw [ha,hn];unfold Ve;rw [Qc9];rfl
    all_goals refine int_arith h (by simp) (by simp) fun a b h=>?_
    case h_4 | h_5=>
      rw [QN,Qo] at h
      obtain ⟨h1,h⟩:=h
      have h1:eqI b 0=false:=by simpa using h1
      exact ⟨_,by simp only [Qcu,h1],h⟩
    all_goals first
      | (rw [Qo] at h;exact ⟨_,rfl,h⟩)
      | (rw [Qg] at h;exact ⟨_,rfl,h⟩)
  · split at h
    case h_1=>
      refine Dc h fun a b h=>?_
      rw [QN,Vt] at h
      exact ⟨_,by simp only [QbZ,h.1],h.2⟩
    case h_8=>exact h.elim
    all_goals (refine Dc h fun a b h=>?_;rw [Qg] at h;exact ⟨_,rfl,h⟩)
  · rename_i hkd
    split at h
    · rw [Z7] at h; obtain ⟨a, ha, h⟩ := h
      rw [Z7] at h;obtain ⟨b,hb,h⟩:=h
      rw [Qg] at h
      exact ⟨_,QaP (by rw [ha,hb];simp [YC,hkd]) (by rw [ha];simp) (by rw [ha];simp) _ (by rw [ha];simp),h⟩
    · rw [Z7] at h; obtain ⟨a, ha, h⟩ := h
      rw [Z7] at h;obtain ⟨b,hb,h⟩:=h
      rw [Qg] at h
      exact ⟨_,QaO (by rw [ha,hb];simp [YC,hkd]) (by rw [ha];simp) (by rw [ha];simp) _ (by rw [ha];simp),h⟩
    · exact h.elim
  · have ob : ∀ {o : Option AV}, (obK o fun c => k (.bool c)) → ∃ r, o = some r ∧ k r := fun h => by
      unfold obK at h
      rw [QX] at h;obtain ⟨v,hv,h⟩:=h
      rw [Z7] at h;obtain ⟨c,rfl,h⟩:=h
      exact ⟨_,hv,h⟩
    split at h
    · split at h
      · rename_i hs
        obtain ⟨hc,hn⟩:=VD hs
        obtain ⟨c,he,h⟩:=Qe7 hn h
        obtain ⟨n1,n2⟩:=GG hn
        exact ⟨_,QaP he (fun _ _ _ _ _ h=>n1 _ _ h) (fun _ _ _ h=>n2 _ h) _ (fun _ _=>by rw [hc];simp),h⟩
      · split at h
        · rename_i hs
          obtain ⟨hc,hn⟩:=VD hs
          obtain ⟨c,he,h⟩:=Qe8 hn h
          obtain ⟨n1,n2⟩:=GG hn
          exact ⟨_,QaP he (fun _ _ _ _ h _=>n1 _ _ h) (fun _ _ h _=>n2 _ h) _ (fun _ _=>by rw [hc];simp),h⟩
        · exact ob h
    · split at h
      · rename_i hs
        obtain ⟨hc,hn⟩:=VD hs
        obtain ⟨c,he,h⟩:=Qe7 hn h
        rw [Qg] at h
        obtain ⟨n1,n2⟩:=GG hn
        exact ⟨_,QaO he (fun _ _ _ _ _ h=>n1 _ _ h) (fun _ _ _ h=>n2 _ h) _ (fun _ _=>by rw [hc];simp),h⟩
      · split at h
        · rename_i hs
          obtain ⟨hc,hn⟩:=VD hs
          obtain ⟨c,he,h⟩:=Qe8 hn h
          rw [Qg] at h
          obtain ⟨n1,n2⟩:=GG hn
          exact ⟨_,QaO he (fun _ _ _ _ h _=>n1 _ _ h) (fun _ _ h _=>n2 _ h) _ (fun _ _=>by rw [hc];simp),h⟩
        · exact ob h
    · exact h.elim
theorem faK_imp {off:Nat} {p:AV} {k:AV→Prop} (h:faK off p k):∃ r,UJ off p=some r∧k r:=by
  unfold faK at h
  rw [Uh] at h
  rcases h with ⟨i,o,rfl,h⟩ | ⟨i,o,rfl,h⟩ <;> (rw [Zb] at h;exact ⟨_,rfl,h⟩)
theorem Dm {kd:Kd} {size off:Nat} {cs:List AV} {k:AV→Prop} (h:Dn kd size off cs k):∃ r,Gr kd.agg size off cs=some r∧k r:=by
  unfold Dn at h
  unfold Gr
  split at h
  · rename_i ha
    rw [QX] at h;obtain ⟨l,hl,h⟩:=h
    rw [ha];exact ⟨_,by simp only [hl],h⟩
  · rename_i ha
    rw [QX] at h;obtain ⟨v,hv,h⟩:=h
    rw [ha];exact ⟨_,hv,YM h⟩
theorem ixK_imp {size:Nat} {s i:AV} {k:AV→Prop} (h:ixK size s i k):∃ r,Vw size s i=some r∧k r:=by
  unfold ixK at h
  rw [YD] at h
  rcases h with ⟨_,h⟩ | ⟨id,off,len,c,e,x,rfl,h⟩
  · exact h.elim
  · rw [We] at h; obtain ⟨kk, n, rfl, h⟩ := h
    rw [QN,Zb] at h
    exact ⟨_,by simp only [Vw,h.1,seqN_eq],h.2⟩
theorem ixaK_imp {n size:Nat} {s i:AV} {k:AV→Prop} (h:QdU n size s i k):∃ r,YV n size s i=some r∧k r:=by
  unfold QdU at h
  rw [Uh] at h
  rcases h with ⟨id,off,rfl,h⟩ | ⟨id,off,rfl,h⟩ <;> (
    rw [We] at h;obtain ⟨kk,m,rfl,h⟩:=h
    rw [QN,Zb] at h
    exact ⟨_,by simp only [YV,h.1,seqN_eq],h.2⟩)
theorem ixsK_imp {s i:AV} {k:Int→Prop} (h:WN s i k):∃ n,Uk s i=some (.int .u8 n)∧k n:=by
  unfold WN at h
  rw [ZJ] at h;obtain ⟨s,rfl,h⟩:=h
  rw [We] at h;obtain ⟨kk,n,rfl,h⟩:=h
  rw [QN,Zb] at h
  exact ⟨_,by simp only [Uk,h.1,seqN_eq],h.2⟩
theorem Ug {d:Nat} {x:Option AV} {k:Nat→Prop} (h:XY d x k):∃ n,bnd d x=some n∧k n:=by
  unfold XY at h
  split at h
  · exact ⟨d,rfl,h⟩
  · rw [We] at h;obtain ⟨kk,n,rfl,h⟩:=h;exact ⟨n,rfl,h⟩
theorem subK_imp {s:AV} {lo hi:Option AV} {k:Str→Prop} (h:Qa5 s lo hi k):∃ r,Ui s lo hi=some (.str r)∧k r:=by
  unfold Qa5 at h
  rw [ZJ] at h;obtain ⟨s,rfl,h⟩:=h
  obtain ⟨l,h1,h⟩:=Ug h
  obtain ⟨u,h2,h⟩:=Ug h
  rw [QN,QN,Vt] at h
  exact ⟨_,by simp only [Ui,h1,h2,h.1,h.2.1],h.2.2⟩
theorem slK_imp {size:Nat} {v:AV} {lo hi:Option AV} {k:AV→Prop} (h:slK size v lo hi k):∃ r,Vv size v lo hi none=some r∧k r:=by
  unfold slK at h
  rw [YD] at h
  rcases h with ⟨rfl,h⟩ | ⟨id,off,len,cap,es,ex,rfl,h⟩
  · obtain ⟨l, h1, h⟩ := Ug h
    obtain ⟨u,h2,h⟩:=Ug h
    rw [QN,QN,Nat.beq_eq,Nat.beq_eq] at h
    obtain ⟨rfl,rfl,h⟩:=h
    exact ⟨.nils,by simp only [Vv,h1,h2],h⟩
  · obtain ⟨l, h1, h⟩ := Ug h
    obtain ⟨u,h2,h⟩:=Ug h
    rw [QN,QN,QN,Yf] at h
    obtain ⟨c1,c2,c3,h⟩:=h
    rcases h with ⟨c4,h⟩ | ⟨c4,h⟩
    · rw [Zb] at h
      exact ⟨_,by simp only [Vv,h1,h2,c1,c2,c3,c4,seqN_eq],h⟩
    · rw [Zb, Zb, Zb] at h
      exact ⟨_,by simp only [Vv,h1,h2,c1,c2,c3,c4,seqN_eq],h⟩
theorem JB {T : Ty} {ρ : Operand → AV} {place : Nat → Option (Nat × Nat)} {k : List AV → Prop} : ∀ {ps : List (Nat × Operand)} {cs : List AV}, VI T ρ place ps cs k →
    ∃ parts cs',(∀ (q:List (Nat × AV)→Option (List (Nat × Nat × AV))),q []=some []→(∀ i v r,q ((i,v)::r)=match place i with
        | some (off, t) => match q r with
          | some l=>some ((off,(T t).size,v)::l)
          | none=>none
        | none=>none)→q (ps.map fun p=>(p.1,ρ p.2))=some parts)∧UN cs parts=some cs'∧k cs'
  | [],cs,h=>⟨[],cs,fun q h0 _=>h0,rfl,h⟩
  | (i, x) :: r, cs, h => by
    unfold VI at h
    split at h
    · rename_i off t hp
      have fin:∀ (xs cs1:List AV),UG (ρ x)=some xs→xs.length=(T t).size→Q7 off xs cs=some cs1→VI T ρ place r cs1 k→∃ parts cs',(∀ (q:List (Nat × AV)→Option (List (Nat × Nat × AV))),q []=some []→(∀ i v r,q ((i,v)::r)=match place i with
          | some (off, t) => match q r with
            | some l=>some ((off,(T t).size,v)::l)
            | none=>none
          | none=>none)→q (((i,x)::r).map fun p=>(p.1,ρ p.2))=some parts)∧UN cs parts=some cs'∧k cs':=fun xs cs1 h1 h2 h3 h=>by
        obtain ⟨parts,cs',q1,q2,q3⟩:=JB h
        refine ⟨(off,(T t).size,ρ x)::parts,cs',fun q h0 hs=>?_,?_,q3⟩
        · rw [List.map_cons,hs,hp,q1 q h0 hs]
        · have e : Nat.beq xs.length (T t).size = true := by rw [Nat.beq_eq]; exact h2
          simp only [UN,h1,e,h3]
          exact q2
      split at h
      · rw [asAgg_iff] at h; obtain ⟨xs, hx, h⟩ := h
        rw [QN,QX,Nat.beq_eq] at h
        obtain ⟨h1,cs1,h2,h⟩:=h
        exact fin xs cs1 (by rw [hx];rfl) h1 h2 h
      · split at h
        · rename_i hs
          rw [Nat.beq_eq] at hs
          split at h
          · rw [Z7] at h; obtain ⟨v, hv, h⟩ := h
            rw [QX] at h;obtain ⟨cs1,h2,h⟩:=h
            exact fin [.bool v] cs1 (by rw [hv];rfl) hs h2 h
          · rw [QC] at h; obtain ⟨v, hv, h⟩ := h
            rw [QX] at h;obtain ⟨cs1,h2,h⟩:=h
            exact fin [.int _ v] cs1 (by rw [hv];rfl) hs h2 h
          · rw [ZJ] at h; obtain ⟨v, hv, h⟩ := h
            rw [QX] at h;obtain ⟨cs1,h2,h⟩:=h
            exact fin [.str v] cs1 (by rw [hv];rfl) hs h2 h
          · rw [QN, QX] at h
            obtain ⟨h1,cs1,h2,h⟩:=h
            exact fin _ cs1 (Kg h1) hs h2 h
        · exact h.elim
    · exact h.elim
theorem Qbd (T:Ty) (fs:List (Nat × Nat)):Vf T fs []=some []∧∀ i v r,Vf T fs ((i,v)::r)=match Qar T fs i with
    | some (off, t) => match Vf T fs r with
      | some l=>some ((off,(T t).size,v)::l)
      | none=>none
    | none=>none:=by
  refine ⟨rfl,fun i v r=>?_⟩
  rw [Vf];unfold Qar
  cases fs[i]? with
  | none=>rfl
  | some p =>
    obtain ⟨off,t⟩:=p
    simp only
    cases (T t).kd.known <;> rfl
theorem toStrK_imp {v:AV} {h:H} {k:Str→Prop} (e:Y1 v h k):∃ s,UH v h=some (.str s)∧k s:=by
  unfold Y1 at e
  rw [YD] at e
  rcases e with ⟨rfl,e⟩ | ⟨id,off,len,cap,es,ex,rfl,e⟩
  · exact ⟨_,rfl,e⟩
  · rw [Zj] at e
    rcases e with ⟨_,_,_,_,e⟩ | ⟨t,f,g,s,hg,e⟩
    · exact e.elim
    · rw [Zb, QN, Vt] at e
      exact ⟨_,by simp only [UH,hg,e.1],e.2⟩
theorem Qdk {T:Ty} {t:Nat} {p:AV} {h:H} {k:AV→Prop} (e:ldK T t p h k):∃ v,(match (T t).kd.known with
    | true => match (T t).kd.agg with
      | true=>Y7 (T t).size p h
      | false=>Zn p h
    | false=>none)=some v∧k v:=by
  unfold ldK at e
  split at e
  · rename_i hk
    rw [hk]
    obtain ⟨v,h1,e⟩:=GI e
    rw [Z7] at e;obtain ⟨b,rfl,e⟩:=e
    exact ⟨_,h1,e⟩
  · rename_i hk
    rw [hk]
    obtain ⟨v,h1,e⟩:=GI e
    rw [QC] at e;obtain ⟨b,rfl,e⟩:=e
    exact ⟨_,h1,e⟩
  · rename_i hk
    rw [hk]
    obtain ⟨v,h1,e⟩:=GI e
    rw [ZJ] at e;obtain ⟨b,rfl,e⟩:=e
    exact ⟨_,h1,e⟩
  · rename_i hk
    rw [hk]
    obtain ⟨l,h1,e⟩:=Qdj e
    exact ⟨_,h1,e⟩
  · rename_i hk
    rw [hk]
    obtain ⟨l,h1,e⟩:=Qdj e
    exact ⟨_,h1,e⟩
  · exact e.elim
  · rename_i h1 h2 h3 h4 h5 h6
    obtain ⟨v,h7,e⟩:=GI e
    refine ⟨v,?_,e⟩
    revert h1 h2 h3 h4 h5 h6
    cases (T t).kd <;> intro h1 h2 h3 h4 h5 h6 <;> first
      | exact (h1 rfl).elim | exact (h2 _ rfl).elim | exact (h3 rfl).elim | exact (h4 _ rfl).elim | exact (h5 _ _ rfl).elim | exact (h6 rfl).elim | exact h7
theorem stK_imp {T : Ty} {t : Nat} {p x : AV} {h : H} {k : H → Prop} (e : stK T t p x h k) : ((T t).kd.known && Nat.ble 0 (T t).size) = true ∧ ∃ h', Yu (T t).size p x h = some h' ∧ k h' := by
  unfold stK at e
  split at e
  · rename_i hc
    refine ⟨hc,?_⟩
    split at e
    · rw [asAgg_iff] at e; obtain ⟨xs, rfl, e⟩ := e
      exact stN_imp e
    · split at e
      · rename_i h1
        rw [Nat.beq_eq] at h1;rw [← h1];exact stV_imp e
      · exact e.elim
  · exact e.elim
theorem srcB_imp {kd : Kd} {x : AV} {h : H} {k : Str → Prop} (e : Qb9 kd x h k) : ∃ s, D8 x h = some s ∧ k s := by
  unfold Qb9 at e
  split at e
  · rw [ZJ] at e;obtain ⟨s,rfl,e⟩:=e;exact ⟨s,rfl,e⟩
  · unfold Y1 at e
    rw [YD] at e
    rcases e with ⟨rfl,e⟩ | ⟨id,off,len,cap,es,ex,rfl,e⟩
    · exact ⟨_,rfl,e⟩
    · rw [Zj] at e
      rcases e with ⟨_,_,_,_,e⟩ | ⟨t,f,g,s,hg,e⟩
      · exact e.elim
      · rw [Zb, QN, Vt] at e
        exact ⟨_,by simp only [D8,hg,e.1],e.2⟩
theorem srcC_imp {size:Nat} {x:AV} {h:H} {k:Nat→List AV→Prop} (e:Qb8 size x h k):∃ n l,Qb5 size x h=some (n,l)∧k n l:=by
  unfold Qb8 at e
  rw [YD] at e
  rcases e with ⟨rfl,e⟩ | ⟨id,off,len,cap,es,ex,rfl,e⟩
  · exact ⟨_,_,rfl,e⟩
  · rw [Zj] at e
    rcases e with ⟨_,_,_,hg,e⟩ | ⟨_,_,_,_,_,e⟩
    · rw [QX] at e; obtain ⟨l, hl, e⟩ := e
      exact ⟨_,_,by simp only [Qb5,hg,hl],e⟩
    · exact e.elim
theorem Uj {b:Blk} {n es:Nat} {h h':H} {i:Nat} (hp:h.push b=some (i,h')):WR b n es h=some (.slice i 0 n n es false,h'):=by unfold WR;simp only [hp]
theorem apB_imp {kd : Kd} {e : Nat} {s x : AV} {h : H} {k : AV → H → Prop} (q : apB kd e s x h k) : op2 (Jq e s x h) k := by
  unfold apB at q
  obtain ⟨src,hs,q1⟩:=srcB_imp q
  clear q;have q:=q1;clear q1
  unfold Jq
  rw [hs];simp only
  rw [YD] at q
  rcases q with ⟨rfl,q⟩ | ⟨id,off,len,cap,es,ex,rfl,q⟩
  · rw [Yf] at q
    rcases q with ⟨c,q⟩ | ⟨c,q⟩
    · simp only [c];exact q
    · rw [QN, Zo] at q
      obtain ⟨c2,i,h',hp,q⟩:=q
      simp only [c,c2,Uj hp];exact q
  · rw [Zj] at q
    rcases q with ⟨_,_,_,_,q⟩ | ⟨t,fz,sg,str,hg,q⟩
    · exact q.elim
    · rw [Zb, Zb, Yf] at q
      simp only [hg,seqN_eq]
      rcases q with ⟨c,q⟩ | ⟨c,q⟩
      · rw [Yf] at q
        simp only [c]
        rcases q with ⟨c2,q⟩ | ⟨c2,q⟩
        · simp only [c2];exact q
        · rw [QN, QN, Vt, ZK] at q
          obtain ⟨c3,c4,h',hp,q⟩:=q
          simp only [c2,c3,c4,hp];exact q
      · rw [QN, QN, Vt, Yf] at q
        obtain ⟨c2,c3,q⟩:=q
        simp only [c,c2,c3]
        rcases q with ⟨rfl,q⟩ | ⟨rfl,q⟩
        · rw [Zo] at q
          obtain ⟨i,h',hp,q⟩:=q
          simp only [Uj hp];exact q
        · rw [QN, QN, QN, ZK] at q
          obtain ⟨c4,c5,c6,h1,hp1,q⟩:=q
          rw [Zo] at q
          obtain ⟨i,h',hp,q⟩:=q
          have c6':(Bool.rec (Nat.beq fz 0) (Nat.ble fz (Nat.add off len)) (Nat.blt 0 cap):Bool)=true:=c6
          simp only [c4,c5,c6',hp1,Uj hp];exact q
theorem apC_imp {e size bytes : Nat} {s x : AV} {h : H} {k : AV → H → Prop} (q : apC e size bytes s x h k) : op2 (Jp e size bytes s x h) k := by
  unfold apC at q
  obtain ⟨n,src,hs,q1⟩:=srcC_imp q
  clear q;have q:=q1;clear q1
  unfold Jp
  rw [hs];simp only
  rw [YD] at q
  rcases q with ⟨rfl,q⟩ | ⟨id,off,len,cap,es,ex,rfl,q⟩
  · rw [Yf] at q
    rcases q with ⟨c,q⟩ | ⟨c,q⟩
    · simp only [c];exact q
    · rw [QN, Zo] at q
      obtain ⟨c2,i,h',hp,q⟩:=q
      simp only [c,c2,Uj hp];exact q
  · rw [Zj] at q
    rcases q with ⟨mv,t,cs,hg,q⟩ | ⟨_,_,_,_,_,q⟩
    · rw [Zb, Yf] at q
      simp only [hg,seqN_eq]
      rcases q with ⟨c,q⟩ | ⟨c,q⟩
      · rw [Yf] at q
        simp only [c]
        rcases q with ⟨c2,q⟩ | ⟨c2,q⟩
        · simp only [c2];exact q
        · rw [QN, UF, QX] at q
          obtain ⟨c3,cs',hl,q⟩:=q
          rw [ZK] at q
          obtain ⟨h',hp,q⟩:=q
          simp only [c2,c3,hl,hp];exact q
      · rw [QN, QX] at q
        obtain ⟨c2,old,hl,q⟩:=q
        rw [lappK_eq,Yf] at q
        simp only [c,c2,hl]
        rcases q with ⟨rfl,q⟩ | ⟨rfl,q⟩
        · rw [Zo] at q
          obtain ⟨i,h',hp,q⟩:=q
          simp only [Uj hp];exact q
        · rw [QN, QN, QN, UF, ZK] at q
          obtain ⟨c4,c5,c6,h1,hp1,q⟩:=q
          rw [Zo] at q
          obtain ⟨i,h',hp,q⟩:=q
          simp only [c4,c5,c6,hp1,Uj hp];exact q
    · exact q.elim
theorem mapBlk_ok {T : Ty} {kt : Nat} {m i v : AV} {h : H} {k : AV → H → Prop} (q : op' (Y3 T kt m i v h) fun p => Yy p.1 p.2 h (k .junk)) : op1 (UI T kt m i v h) k := by
  rw [QX] at q
  obtain ⟨⟨id,b⟩,hp,q⟩:=q
  rw [ZK] at q
  obtain ⟨h',hput,q⟩:=q
  have:UI T kt m i v h=some h':=by
    unfold Y3 at hp
    unfold UI
    split at hp
    · split at hp
      · rename_i hg; simp only [hg]
        split at hp
        · rename_i hs; simp only [hs]
          split at hp
          · rename_i hf;injection hp with hp;injection hp with e1 e2;subst e1 e2;simp only [hf];exact hput
          · rename_i hf;injection hp with hp;injection hp with e1 e2;subst e1 e2;simp only [hf];exact hput
          · cases hp
        · cases hp
      · rename_i hg; simp only [hg]
        split at hp
        · rename_i hs; simp only [hs]
          split at hp
          · rename_i hf;injection hp with hp;injection hp with e1 e2;subst e1 e2;simp only [hf];exact hput
          · rename_i hf;injection hp with hp;injection hp with e1 e2;subst e1 e2;simp only [hf];exact hput
          · cases hp
        · cases hp
      · cases hp
    · cases hp
  rw [this];exact q
theorem mapBlkD_ok {T : Ty} {kt : Nat} {m i : AV} {h : H} {k : AV → H → Prop} (q : op' (Uu T kt m i h) fun p => match p with
        | some q=>Yy q.1 q.2 h (k (.tuple []))
        | none=>k (.tuple []) h):∃ h',Xa T kt m i h=some h'∧k (.tuple []) h':=by
  rw [QX] at q
  obtain ⟨p,hp,q⟩:=q
  unfold Uu at hp
  unfold Xa
  split at hp
  · rename_i hs; simp only [hs]
    split at hp
    · injection hp with hp;subst hp;exact ⟨h,rfl,q⟩
    · split at hp
      · rename_i hg; simp only [hg]
        split at hp
        · rename_i hf; injection hp with hp; subst hp
          simp only [ZK] at q
          obtain ⟨h',h1,h2⟩:=q
          exact ⟨h',by simp only [hf];exact h1,h2⟩
        · rename_i hf; injection hp with hp; subst hp
          simp only [ZK] at q
          obtain ⟨h',h1,h2⟩:=q
          exact ⟨h',by simp only [hf];exact h1,h2⟩
        · cases hp
      · rename_i hg; simp only [hg]
        split at hp
        · rename_i hf; injection hp with hp; subst hp
          simp only [ZK] at q
          obtain ⟨h',h1,h2⟩:=q
          exact ⟨h',by simp only [hf];exact h1,h2⟩
        · rename_i hf; injection hp with hp; subst hp
          simp only [ZK] at q
          obtain ⟨h',h1,h2⟩:=q
          exact ⟨h',by simp only [hf];exact h1,h2⟩
        · cases hp
      · cases hp
    · cases hp
  · cases hp
section
variable {T:Ty} {G:Gam} {ty:Nat} {ρ:Operand→AV} {h:H} {k:AV→H→Prop}
theorem x0 {o:Op} {v:AV} (hc:opC T o=0) (hv:opP T o ρ=some v) (hk:k v h):opX T G o ρ h k:=by unfold opX;rw [hc];simp only [hv];exact hk
theorem x1 {o:Op} {v:AV} (hc:opC T o=1) (hv:opR T o ρ h=some v) (hk:k v h):opX T G o ρ h k:=by unfold opX;rw [hc];simp only [hv];exact hk
theorem x2 {o:Op} {b:Blk} {f:Nat→AV} {n:Nat} {h':H} (hc:opC T o=2) (hv:opA T o ρ=some (b,f)) (hp:h.push b=some (n,h')) (hk:k (f n) h'):opX T G o ρ h k:=by
  unfold opX;rw [hc];simp only [hv,aNew,hp];exact hk
theorem x3 {o:Op} (hc:opC T o=3) (hk:opW T G o ρ h k):opX T G o ρ h k:=by unfold opX;rw [hc];exact hk
theorem GD {o : Op} (e : opF T G ty o ρ h k) : ∃ K, opX T G o ρ h K ∧ ∀ r h', K r h' → k r h' := by
  have same:opX T G o ρ h k→∃ K,opX T G o ρ h K∧∀ r h',K r h'→k r h':=fun h=>⟨k,h,fun _ _ h=>h⟩
  unfold opF at e
  split at e
  case h_1 x=>exact same (x0 rfl rfl e)
  case h_2 x=>exact same (x0 rfl rfl e)
  case h_3 c a b=>obtain ⟨v,h1,h2⟩:=pickK_imp e;exact same (x0 rfl h1 h2)
  case h_4 x=>obtain ⟨h1,h2⟩:=okNil_imp e;exact same (x0 rfl h1 h2)
  case h_5 op t x y u=>obtain ⟨v,h1,h2⟩:=binK_imp e;exact same (x0 rfl h1 h2)
  case h_6 op t x=>
    split at e
    · rw [Z7] at e; obtain ⟨b, hb, e⟩ := e
      rw [Qg] at e
      exact same (x0 rfl (by simp only [opP,hb];rfl) e)
    · rw [QX] at e; obtain ⟨v, hv, e⟩ := e
      exact same (x0 rfl hv (YM e))
  case h_7 s d x=>
    split at e
    · rename_i k1 k2 hs hd
      rw [QC] at e;obtain ⟨n,hn,e⟩:=e
      rw [Qo] at e
      exact same (x0 (by simp only [opC,hs,hd]) (by simp only [opP,QdM,hs,hd,Kd.known,hn,aInt]) e)
    · rename_i hs hd
      rw [ZJ] at e;obtain ⟨n,hn,e⟩:=e
      exact same (x0 (by simp only [opC,hs,hd]) (by simp only [opP,QdM,hs,hd,hn]) e)
    · rename_i e' hs hd
      split at e
      · rename_i hu
        obtain ⟨v,h1,h2⟩:=toStrK_imp e
        exact same (x1 (by simp only [opC,hs,hd]) (by simp only [opR,hs,hd,hu];exact h1) h2)
      · exact e.elim
    · rename_i e' hs hd
      split at e
      · rename_i hu
        rw [ZJ] at e;obtain ⟨s',hs',e⟩:=e
        rw [Zo] at e;obtain ⟨n,h',hp,e⟩:=e
        exact same (x2 (f:=fun n=>.slice n 0 s'.len s'.len 1 false) (by simp only [opC,hs,hd]) (by simp only [opA,hs,hd,hu,hs'];rfl) hp e)
      · exact e.elim
    · exact same e
  case h_8 t x f=>
    split at e
    · rename_i off ft hf
      obtain ⟨v,h1,h2⟩:=faK_imp e;exact same (x0 rfl (by simp only [opP,hf];exact h1) h2)
    · exact e.elim
  case h_9 t x f=>
    split at e
    · rename_i off ft hf
      rw [asAgg_iff] at e;obtain ⟨cs,hx,e⟩:=e
      obtain ⟨v,h1,h2⟩:=Dm e
      exact same (x0 rfl (by simp only [opP,hf,hx,QaU];exact h1) h2)
    · exact e.elim
  case h_10 t x i=>
    split at e
    · rename_i el hk
      split at e
      · rename_i hkn
        obtain ⟨v,h1,h2⟩:=ixK_imp e;exact same (x0 rfl (by simp only [opP,hk,hkn];exact h1) h2)
      · exact e.elim
    · rename_i n el hk
      split at e
      · rename_i hkn
        obtain ⟨v,h1,h2⟩:=ixaK_imp e;exact same (x0 rfl (by simp only [opP,hk,hkn];exact h1) h2)
      · exact e.elim
    · exact e.elim
  case h_11 t x i=>
    split at e
    · rename_i hk
      obtain ⟨v,h1,h2⟩:=ixsK_imp e;exact same (x0 rfl (by simp only [opP,hk];exact h1) h2)
    · rename_i n el hk
      split at e
      · rename_i hkn
        rw [asAgg_iff] at e;obtain ⟨cs,hx,e⟩:=e
        rw [We] at e;obtain ⟨kk,m,hi,e⟩:=e
        rw [QN,Zb] at e
        obtain ⟨v,h1,h2⟩:=Dm e.2
        exact same (x0 rfl (by simp only [opP,hk,hkn,hx,hi,JJ,e.1];exact h1) h2)
      · exact e.elim
    · exact e.elim
  case h_12 t x lo hi=>
    split at e
    · rename_i hk
      obtain ⟨v,h1,h2⟩:=subK_imp e;exact same (x0 (by simp only [opC,hk]) (by simp only [opP,hk];exact h1) h2)
    · rename_i el hk
      split at e
      · rename_i hkn
        obtain ⟨v,h1,h2⟩:=slK_imp e;exact same (x0 (by simp only [opC,hk]) (by simp only [opP,hk,hkn];exact h1) h2)
      · exact e.elim
    · exact same e
    · exact e.elim
  case h_13 x i=>
    rw [asTup_iff] at e;obtain ⟨vs,hx,e⟩:=e
    rw [QX] at e;obtain ⟨v,hv,e⟩:=e
    rw [Vn] at hv
    exact same (x0 rfl (by simp only [opP,hx,Xd];exact hv) (YM e))
  case h_14 t ps=>
    split at e
    · rename_i fs hk
      split at e
      · rename_i hall
        obtain ⟨parts,cs',q1,q2,q3⟩:=JB e
        have:=q1 (Vf T fs) (Qbd T fs).1 (Qbd T fs).2
        exact same (x0 rfl (by simp only [opP,hk,hall,this,Jo,q2]) q3)
      · exact e.elim
    · rename_i n el hk
      split at e
      · rename_i hkn
        obtain ⟨parts,cs',q1,q2,q3⟩:=JB e
        have:=q1 (fun l=>some (U2 (T el).size l)) rfl (fun _ _ _=>rfl)
        injection this with this
        exact same (x0 rfl (by simp only [opP,hk,hkn,this,Jo,q2]) q3)
      · exact e.elim
    · exact e.elim
  case h_15 t a=>obtain ⟨v,h1,h2⟩:=Qdk e;exact same (x1 rfl h1 h2)
  case h_16 t a x=>
    obtain ⟨hc,h',h1,h2⟩:=stK_imp e
    exact same (x3 rfl (by simp only [opW,hc,h1,op1];exact h2))
  case h_17 el=>
    split at e
    · rename_i hk
      rw [Zo] at e;obtain ⟨n,h',hp,e⟩:=e
      exact same (x2 (f:=fun n=>.ptr n 0) rfl (by simp only [opA,hk];rfl) hp e)
    · exact e.elim
  case h_18 el x=>
    split at e
    · rw [asAgg_iff] at e; obtain ⟨cs, hx, e⟩ := e
      rw [Zo] at e;obtain ⟨n,h',hp,e⟩:=e
      exact same (x2 (f:=fun n=>.ptr n 0) rfl (by simp only [opA,hx,Qfj,UG]) hp e)
    · rw [QN, Zo] at e
      obtain ⟨h1,n,h',hp,e⟩:=e
      exact same (x2 (f:=fun n=>.ptr n 0) rfl (by simp only [opA,Qfj,Kg h1]) hp e)
  case h_19 t n ps=>
    split at e
    · rename_i el hk
      split at e
      · rename_i hc
        obtain ⟨parts,cs',q1,q2,q3⟩:=JB e
        have:=q1 (fun l=>some (U2 (T el).size l)) rfl (fun _ _ _=>rfl)
        injection this with this
        rw [QX] at q3;obtain ⟨b,hb,q3⟩:=q3
        rw [Zo] at q3;obtain ⟨i,h',hp,q3⟩:=q3
        exact same (x2 (f:=fun i=>.slice i 0 n n (T el).size true) rfl (by simp only [opA,hk,hc,this,VO,q2,hb]) hp q3)
      · exact e.elim
    · exact e.elim
  case h_20 t l c=>
    rw [QX] at e;obtain ⟨p,hp0,e⟩:=e
    rw [Zo] at e;obtain ⟨n,h',hp,e⟩:=e
    exact same (x2 rfl hp0 hp e)
  case h_21 t x i ok=>
    split at e
    · rename_i kt el hk
      rw [QX] at e;obtain ⟨v,hv,e⟩:=e
      exact same (x1 rfl (by simp only [opR,hk];exact hv) (YM e))
    · exact e.elim
  case h_22 t m i v=>
    split at e
    · rename_i kt el hk
      exact same (x3 rfl (by simp only [opW,hk];exact mapBlk_ok e))
    · exact e.elim
  case h_23 t=>
    rw [Zo] at e;obtain ⟨n,h',hp,e⟩:=e
    exact same (x3 rfl (by simp only [opW,Xb,hp];exact e))
  case h_24 t x=>
    split at e
    · rename_i kt el hk
      exact same (x3 rfl (by simp only [opW,hk];exact e))
    · exact e.elim
  case h_25 i=>exact same (x3 rfl e)
  case h_26 args argTypes=>
    split at e
    · rename_i x t ha ht
      split at e
      · rename_i hk
        rw [ZJ] at e;obtain ⟨s,hs,e⟩:=e
        exact same (x0 (by simp only [opC,ht,hk]) (by simp only [opP,ha,ht,hk,hs,GR]) e)
      · rename_i el hk
        have c0:opC T (.call { callee:=.builtin .len,args,argTypes })=0:=by simp only [opC,ht,hk]
        rw [YD] at e
        rcases e with ⟨hs,e⟩ | ⟨_,_,_,_,_,_,hs,e⟩
        · exact same (x0 c0 (by simp only [opP,ha,ht,hk,hs,NZ]) e)
        · exact same (x0 c0 (by simp only [opP,ha,ht,hk,hs,NZ]) e)
      · rename_i kt el hk
        rw [QX] at e;obtain ⟨v,hv,e⟩:=e
        exact same (x1 (by simp only [opC,ht,hk]) (by simp only [opR,ha,ht,hk];exact hv) e)
      · exact e.elim
    · exact e.elim
  case h_27 args argTypes =>
    split at e
    · rename_i s x t t2 ha ht
      split at e
      · rename_i el hk
        split at e
        · rename_i hc
          split at e
          · rename_i hu
            exact same (x3 rfl (by simp only [opW,ha,ht,hk,hc,hu];exact apB_imp e))
          · rename_i hu
            exact same (x3 rfl (by simp only [opW,ha,ht,hk,hc,hu];exact apC_imp e))
        · exact e.elim
      · exact e.elim
    · exact e.elim
  case h_28 args argTypes=>
    split at e
    · rename_i m i t t2 ha ht
      split at e
      · rename_i kt el hk
        obtain ⟨h',h1,h2⟩:=mapBlkD_ok e
        exact same (x3 rfl (by simp only [opW,ha,ht,hk,h1];exact h2))
      · exact e.elim
    · exact e.elim
  case h_29 args argTypes=>
    rw [QX] at e;obtain ⟨v,hv,e⟩:=e
    exact same (x0 rfl hv (YM e))
  case h_30 args argTypes=>
    rw [QX] at e;obtain ⟨v,hv,e⟩:=e
    exact same (x0 rfl hv (YM e))
  case h_31 f args argTypes=>
    refine ⟨fun v h'=>Wo (T ty).kd v fun v=>k v h',x3 rfl ?_,fun r h' hc=>YM hc⟩
    unfold K8 at e
    unfold opW
    split at e
    · rename_i hf;simp only [hf];exact e
    · rename_i hf;simp only [hf];exact e
    · exact e.elim
  case h_32 x xt a ok=>
    rw [QX] at e;obtain ⟨v,hv,e⟩:=e
    exact same (x0 rfl hv (YM e))
  case h_33=>exact same e
end
end Go.Am
namespace Go.Am
open Go
def put (dst:Option Nat) (v:AV) (env:List AV):List AV :=
  match dst with
  | some d=>XB env d v
  | none=>env
def Qez:List AV→Nat→AV→(List AV→Prop)→Prop:=@List.rec AV (fun _=>Nat→AV→(List AV→Prop)→P2) (fun _ _ k=>k [])
  (fun a t ih i v k=>Nat.rec (motive:=fun _=>Prop) (k (v::t)) (fun j _=>ih j v fun t'=>k (a::t')) i)
theorem Qbv:∀ (l:List AV) (i:Nat) (v:AV) (k:List AV→Prop),Qez l i v k=k (XB l i v)
  | [],_,_,_=>rfl
  | _::_,0,_,_=>rfl
  | a :: t, i + 1, v, k => by
    show Qez t i v (fun t'=>k (a::t'))=_
    rw [Qbv t];rfl
def Xq (dst:Option Nat) (v:AV) (env:List AV) (k:List AV→Prop):Prop :=
  match dst with
  | some d=>Qez env d v k
  | none=>k env
theorem WY (dst:Option Nat) (v:AV) (env:List AV) (k:List AV→Prop):Xq dst v env k=k (put dst v env):=by
  cases dst with
  | none=>rfl
  | some d=>exact Qbv env d v k
def Ww (J:Qh) (all:List Oper) (o:Oper) (env:List AV) (h:H) (run:(AV→H→Prop)→Prop) (k:AV→H→Prop):Prop :=
  match o.guard with
  | none=>run k
  | some (j, want) => match all[j]? with
    | some oj => match oj.dst with
      | some d => J.jn k fun j => ZW (Wi .junk env d) (fun b => match want with
        | true=>br b (run j) (j Qb h)
        | false=>br b (j Qb h) (run j)) (j Qb h)
      | none=>False
    | none=>False
def Uq (T:Ty) (G:Gam) (top:Bool) (all:List Oper):List Oper→List AV→List Dfr→H→(List AV→List Dfr→H→Prop)→Prop
  | [],env,ds,h,k=>k env ds h
  | o :: r, env, ds, h, k => match o.op with
    | .defer c => match top, o.guard, c.callee with
      | true, none, .value f => match ev env f with
        | .func (.func g) first captured=>Xq o.dst .junk env fun env1=>Uq T G top all r env1 (.call g (first++c.args.toList.map (ev env)) captured::ds) h k
        | _=>False
      | _,_,_=>False
    | _=>Ww G.J all o env h (opF T G o.type o.op (ev env) h) fun v h'=>Xq o.dst v env fun env=>Uq T G top all r env ds h' k
def UC (o:Oper):List Nat:=o.after.toList.filterMap fun e=>if Region.binds .any e then some e.on else none
def Xy (acc:List Nat):List Nat→Nat
  | []=>0
  | d::r=>Nat.lor (Nat.lor (Nat.shiftLeft 1 d) (acc.getD d 0)) (Xy acc r)
def Qx:List Oper→List Nat→List Nat
  | [],acc=>acc
  | o::r,acc=>Qx r (acc++[Xy acc (UC o)])
def looks (ops:List Oper) (o:Oper):List Nat :=
  (o.op.operands.toList.filterMap fun | .tmp t=>some t | _=>none) ++
  (match o.guard with
   | some (g,_)=>((ops[g]?).bind (·.dst)).toList
   | none=>[])
def Nk (cls : List Nat) (dl : List (List Nat)) (done : List Nat) (w : Bool) : List Nat → Option Nat
  | []=>none
  | i :: r => match done.contains i || (w != (cls.getD i 3 == 3)) || !((dl.getD i []).all done.contains) with
    | true=>Nk cls dl done w r
    | false=>some i
def Qfa (cls : List Nat) (dl : List (List Nat)) (all : List Nat) : Nat → List Nat → List Nat
  | 0,done=>done
  | n + 1, done => match Nk cls dl done false all with
    | some i=>Qfa cls dl all n (done++[i])
    | none => match Nk cls dl done true all with
      | some i=>Qfa cls dl all n (done++[i])
      | none=>done
def VB (T:Ty) (ops:List Oper):List Nat :=
  Qfa (ops.map fun o=>opC T o.op) (ops.map UC) (List.range ops.length) ops.length []
def Qfh (M π:List Nat) (i j:Nat):Bool:=Nat.testBit (M.getD j 0) i && Nat.blt (π.idxOf i) (π.idxOf j)
def Nm (T : Ty) (ops : List Oper) (M π : List Nat) (i j : Nat) (oi oj : Oper) : Bool :=
  i == j || Qfh M π i j || Qfh M π j i ||
    (!(match oi.dst with | some t=>(looks ops oj).contains t || oj.dst == some t | none=>false) &&
     !(opC T oi.op == 3 && opC T oj.op == 3) &&
     !(opC T oi.op == 3 && Nat.blt (π.idxOf i) (π.idxOf j)))
def YH (T : Ty) (ops : List Oper) (M π : List Nat) : Bool :=
  π.length == ops.length &&
  ((List.range ops.length).all fun p=>π.idxOf (π.getD p 0) == p && Nat.blt (π.getD p 0) ops.length) &&
  ((List.range ops.length).all fun i=>match ops[i]? with
    | some oi=>(Nat.blt (π.idxOf i) ops.length) && (UC oi).all (fun d=>Nat.blt (π.idxOf d) (π.idxOf i)) &&
        (List.range ops.length).all fun j=>match ops[j]? with
          | some oj=>Nm T ops M π i j oi oj
          | none=>false
    | none=>false)
def QK (i j:Nat) (ops:List Oper):List Oper:=ops.modify j fun o=>{ o with after:=o.after.push ⟨i,.data⟩ }
def Jz (o:Oper):Option Operand :=
  match o.op,o.guard,o.dst with
  | .store _ p _,none,none=>some p
  | _,_,_=>none
def QcJ (T : Ty) (ops : List Oper) (i j : Nat) (C : List Nat) : Bool :=
  YH T (QK i j ops) (Qx (QK i j ops) []) (C++[i,j]) && YH T (QK j i ops) (Qx (QK j i ops) []) (C++[j,i]) &&
    C.all fun x=>Nat.beq ((Qx (QK i j ops) []).getD x 0) ((Qx (QK j i ops) []).getD x 0)
def two (T : Ty) (ops : List Oper) : Option (Nat × Nat × List Nat × Operand × Operand) :=
  match (VB T ops).reverse with
  | j :: i :: C => match ops[i]?, ops[j]? with
    | some oi, some oj => match Jz oi, Jz oj with
      | some p, some q => match QcJ T ops i j C.reverse with
        | true=>some (i,j,C.reverse,p,q)
        | false=>none
      | _,_=>none
    | _,_=>none
  | _=>none
def AV.same:AV→AV→Bool
  | .bool a,.bool b=>a == b
  | .int k a,.int k' b=>decide (k=k') && a == b
  | .str a,.str b=>decide (a=b)
  | .nilp,.nilp=>true
  | .ptr a b,.ptr c d=>a == c && b == d
  | .nils,.nils=>true
  | .slice a b c d e f,.slice a' b' c' d' e' f'=>a == a' && b == b' && c == c' && d == d' && e == e' && f == f'
  | .nilm,.nilm=>true
  | .map a,.map b=>a == b
  | .nilf,.nilf=>true
  | .nili,.nili=>true
  | .agg as,.agg bs=>sames as bs
  | _,_=>false
where
  sames:List AV→List AV→Bool
    | [],[]=>true
    | a::as,b::bs=>AV.same a b && sames as bs
    | _,_=>false
structure Q2 where
  i:Nat
  op:Op
  env:List AV
  v:AV
  b:Bool
def Zz (o:Option AV) (v:AV):Bool:=Option.rec (motive:=fun _=>Bool) false (fun x=>AV.same x v) o
def Qco (o:Op):Bool :=
  match o with
  | .load _ (.global _)=>true
  | _=>false
def Z3 (T:Ty) (m:Nat) (h:H) (k:Prop):List Q2→Prop
  | []=>k
  | s :: r => match Bool.or (Nat.testBit m s.i) (Qco s.op) with
    | true=>Z3 T m h k r
    | false=>ck (Bool.rec (motive:=fun _=>Bool) true (Zz (opR T s.op (ev s.env) h) s.v) s.b) (Z3 T m h k r)
def XJ (J:Qh) (all:List Oper) (o:Oper) (env:List AV) (run:(AV→Prop)→Prop) (k:Bool→AV→Prop):Prop :=
  match o.guard with
  | none=>run (k true)
  | some (j, want) => match all[j]? with
    | some oj => match oj.dst with
      | some d => J.jb k fun j => ZW (Wi .junk env d) (fun b => match want with
        | true=>br b (run (j true)) (j false Qb)
        | false=>br b (j false Qb) (run (j true))) (j false Qb)
      | none=>False
    | none=>False
def QB (T:Ty) (G:Gam) (all:List Oper) (M:List Nat):List Nat→List Q2→List AV→H→(List Q2→List AV→H→Prop)→Prop
  | [],seen,env,h,k=>k seen env h
  | i :: r, seen, env, h, k => match all[i]? with
    | none=>False
    | some o => match opC T o.op with
      | 1=>XJ G.J all o env (fun k=>opF T G o.type o.op (ev env) h fun v _=>k v) fun b v=>Xq o.dst v env fun env'=>QB T G all M r (⟨i,o.op,env,v,b⟩::seen) env' h k
      | 3=>Ww G.J all o env h (opF T G o.type o.op (ev env) h) fun v h'=>Z3 T (M.getD i 0) h' (Xq o.dst v env fun env=>QB T G all M r seen env h' k) seen
      | _=>Ww G.J all o env h (opF T G o.type o.op (ev env) h) fun v h'=>Xq o.dst v env fun env=>QB T G all M r seen env h' k
def QdX (x:Nat) (l:List Nat):List Nat:=if l.contains x then l else x::l
def Vb (a b:List Nat):List Nat:=a.foldr QdX b
def J5 (x:Operand) (acc:List Nat):List Nat :=
  match x with
  | .tmp t=>QdX t acc
  | _=>acc
structure Lv where
  norm:List Nat
  ex:List (Nat × List Nat)
  ret:List Nat
def GL (ops : List Oper) (o : Oper) (acc : List Nat) : List Nat :=
  match o.guard with
  | some (j, _) => match ops[j]? with
    | some oj => match oj.dst with
      | some d=>QdX d acc
      | none=>acc
    | none=>acc
  | none=>acc
def QeD (d:Option Nat) (acc:List Nat):List Nat :=
  match d with
  | some d=>acc.filter fun x=>!(Nat.beq x d)
  | none=>acc
def Qce (all:List Oper) (ops:List Oper) (acc:List Nat):List Nat:=ops.foldr (fun o acc=>GL all o (o.op.operands.toList.foldr J5 (QeD o.dst acc))) acc
def Qcx (i:Nat):List (Nat × List Nat)→List Nat
  | []=>[]
  | p::l=>if Nat.beq p.1 i then p.2 else Qcx i l
def QV:Code→Lv→List Nat
  | .region _ ops _,L=>Qce ops.toList ops.toList L.norm
  | .seq a b,L=>QV a ⟨QV b L,L.ex,L.ret⟩
  | .cond c a b,L=>J5 c (Vb (QV a L) (QV b L))
  | .block id b,L=>QV b ⟨L.norm,(id,L.norm)::L.ex,L.ret⟩
  | .loop b,L=>QV b ⟨[],L.ex,L.ret⟩
  | .scope b,L=>QV b L
  | .rangeFunc f _ a b,L=>J5 f (Vb (QV a ⟨QV b ⟨[],L.ex,L.ret⟩,L.ex,L.ret⟩) (L.ex.foldr (fun p acc=>Vb p.2 acc) (Vb L.ret L.norm)))
  | .skip,L=>L.norm
  | .label _,L=>L.norm
  | .ret,L=>L.ret
  | .exit i,L=>Qcx i L.ex
  | _,_=>[]
def Gn (id:Nat):Code→Nat
  | .seq a b=>Gn id a+Gn id b
  | .cond _ a b=>Gn id a+Gn id b
  | .block _ b=>Gn id b
  | .loop b=>Gn id b
  | .scope b=>Gn id b
  | .rangeFunc _ _ _ _=>1
  | .exit i=>if i=id then 1 else 0
  | _=>0
def UT:Code→Nat
  | .skip=>1
  | .label _=>1
  | .region ..=>1
  | .rangeFunc ..=>1
  | .seq a b=>min (UT a) 1 * UT b
  | .cond _ a b=>UT a+UT b
  | .block id b=>UT b+Gn id b
  | .scope b=>UT b
  | _=>0
def Tup:List Nat→Type
  | []=>Unit
  | _::l=>AV × Tup l
def UQ:(l:List Nat)→List AV→Tup l
  | [],_=>()
  | t::l,env=>(Wi .junk env t,UQ l env)
def Yv:(n:Nat)→Nat→(L:List Nat)→Tup L→List AV
  | 0,_,_,_=>[]
  | n+1,i,[],v=>.junk::Yv n (i+1) [] v
  | n + 1, i, t :: L, v => match Nat.beq i t with
    | true=>v.1::Yv n (i+1) L v.2
    | false=>.junk::Yv n (i+1) (t::L) v
def live (n:Nat) (L:List Nat):List Nat:=(List.range n).filter L.contains
def Vu (id0 id1:Nat) (K:Ks) (env:List AV) (ds:List Dfr) (h:H):Prop :=
  match h.get id1 with
  | .loop .busy _ _ _ _ _=>False
  | .loop _ pend _ _ _ _ => Zr id1 .exhausted pend h fun h' => match pend with
    | none=>K.norm env (.coll id0::ds) h'
    | some .ret=>K.ret env (.coll id0::ds) h'
    | some (.exit i)=>K.exit i env (.coll id0::ds) h'
    | _=>False
  | _=>False
def den (T:Ty) (G:Gam) (top:Bool) (n:Nat):Code→Lv→Ks→List AV→List Dfr→H→Prop
  | .skip,_,K,env,ds,h=>K.norm env ds h
  | .label _,_,K,env,ds,h=>K.norm env ds h
  | .ret,_,K,env,ds,h=>K.ret env ds h
  | .exit id,_,K,env,ds,h=>K.exit id env ds h
  | .region _ ops draw, _, K, env, ds, h => match draw with
    | false=>Uq T G top ops.toList ops.toList env ds h K.norm
    | true => match YH T ops.toList (Qx ops.toList []) (VB T ops.toList) with
      | true=>QB T G ops.toList (Qx ops.toList []) (VB T ops.toList) [] env h fun _ env h=>K.norm env ds h
      | false => match two T ops.toList with
        | some (i, j, C, p, q) => QB T G (QK i j ops.toList) (Qx (QK i j ops.toList) []) C [] env h fun seen env h => asPtr (ev env p) fun a _ => asPtr (ev env q) fun b _ => ck (Bool.not (Nat.beq a b))
          (QB T G (QK j i ops.toList) (Qx (QK j i ops.toList) []) [j,i] seen env h fun _ _ _=>QB T G (QK i j ops.toList) (Qx (QK i j ops.toList) []) [i,j] seen env h fun _ env h=>K.norm env ds h)
        | none=>False
  | .seq a b, L, K, env, ds, h => match Nat.ble (UT a) 1 with
    | true=>den T G top n a ⟨QV b L,L.ex,L.ret⟩ ⟨den T G top n b L K,K.exit,K.ret⟩ env ds h
    | false=>G.J.jd (α:=Tup (live n (QV b L))) (fun v=>den T G top n b L K (Yv n 0 (live n (QV b L)) v)) fun j=>den T G top n a ⟨QV b L,L.ex,L.ret⟩ ⟨fun e=>j (UQ (live n (QV b L)) e),K.exit,K.ret⟩ env ds h
  | .cond c a b,L,K,env,ds,h=>asB (ev env c) fun c=>br c (den T G top n a L K env ds h) (den T G top n b L K env ds h)
  | .block id b, L, K, env, ds, h => den T G top n b ⟨L.norm, (id, L.norm) :: L.ex, L.ret⟩ ⟨K.norm, fun i e => match Nat.beq i id with
    | true=>K.norm e
    | false=>K.exit i e,K.ret⟩ env ds h
  | .scope b,L,K,env,ds,h=>den T G top n b L K env ds h
  | .loop b,L,K,env,ds,h=>G.J.lp (α:=Tup (live n (QV b ⟨[],L.ex,L.ret⟩))) (fun self v=>den T G top n b ⟨QV b ⟨[],L.ex,L.ret⟩,L.ex,L.ret⟩ ⟨fun e=>self (UQ (live n (QV b ⟨[],L.ex,L.ret⟩)) e),K.exit,K.ret⟩ (Yv n 0 (live n (QV b ⟨[],L.ex,L.ret⟩)) v)) (UQ (live n (QV b ⟨[],L.ex,L.ret⟩)) env) ds h
  | .rangeFunc g ps a b, _, K, env, ds, h => match top with
    | true => match ev env g with
      | .func (.func f) first captured=>Qz (.defd true) h fun id0 h=>Qz (.loop .ready none ps.toList a b env) h fun id1 h=>G.it f (first++(.yield id1::captured)) h fun _ h=>Vu id0 id1 K env ds h
      | _=>False
    | false=>False
  | _,_,_,_,_,_=>False
def Qu (G:Gam):List Dfr→H→(H→Prop)→Prop
  | [],h,k=>k h
  | .coll id :: ds, h, k => match h.get id with
    | .defd true=>Yy id (.defd false) h fun h=>Qu G ds h k
    | _=>False
  | .call f as cs::ds,h,k=>G.dfn f (as++cs) h fun _ h=>Qu G ds h k
def Qam (T:Ty) (env:List AV) (h:H):List ResultVar→List Nat→(List AV→Prop)→Prop
  | [],_,k=>k []
  | r :: l, ts, k => match r, ts with
    | .tmp t,ty::ts=>Wo (T ty).kd (Wi .junk env t) fun v=>Qam T env h l ts fun vs=>k (v::vs)
    | .cell a t,_=>ldK T t (Wi .junk env a) h fun v=>Qam T env h l ts.tail fun vs=>k (v::vs)
    | _,_=>False
def Zf (T:Ty) (rs:List ResultVar) (ts:List Nat) (env:List AV) (h:H) (k:AV→H→Prop):Prop :=
  Qam T env h rs ts fun vs=>match vs with
    | [v]=>k v h
    | vs=>k (.tuple vs) h
def Zm:List ResultVar→List Nat
  | []=>[]
  | .tmp t::l=>t::Zm l
  | .cell a _::l=>a::Zm l
def Gh (n:Nat):List AV→List AV:=Nat.rec (motive:=fun _=>List AV→List AV) (fun _=>[]) (fun _ ih l=>List.rec (motive:=fun _=>List AV) (.junk::ih []) (fun a t _=>a::ih t) l) n
def Zl (T:Ty) (G:Gam) (f:Func):Fun:=fun args h k=>
  match f.body,Nat.ble args.length f.ntmps with
  | some c,true=>den T G true f.ntmps c ⟨Zm f.results.toList,[],Zm f.results.toList⟩ ⟨fun env ds h=>Qu G ds h fun h=>Zf T f.results.toList f.resultTypes.toList env h k,fun _ _ _ _=>False,fun env ds h=>Qu G ds h fun h=>Zf T f.results.toList f.resultTypes.toList env h k⟩ (Gh f.ntmps args) [] h
  | _,_=>False
def Qcs (T:Ty) (G:Gam):Code→Ks→List AV→List Dfr→H→Prop:=fun c K env ds h=>den T G false env.length c ⟨[],[],[]⟩ K env ds h
end Go.Am
