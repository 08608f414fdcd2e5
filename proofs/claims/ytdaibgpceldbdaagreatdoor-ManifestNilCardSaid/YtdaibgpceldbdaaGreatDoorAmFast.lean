/- Each operation, as the runs reckon it. -/
import Derived.Test.YtdaibgpceldbdaaGreatDoorAmSpec
namespace Go.Am
open Go

noncomputable def nmin (a b : Nat) : Nat := Bool.rec (motive := fun _ => Nat) b a (Nat.ble a b)
theorem nmin_eq (a b : Nat) : nmin a b = min a b := by
  unfold nmin; cases h : Nat.ble a b with
  | true => rw [ble_iff] at h; show a = _; omega
  | false => have : ¬ a ≤ b := fun h' => by rw [← ble_iff, h] at h'; cases h'
             show b = _; omega
noncomputable def shrF (x : Int) (n : Nat) : Int := Int.rec (motive := fun _ => Int) (fun m => Int.ofNat (Nat.shiftRight m n)) (fun m => Int.negSucc (Nat.shiftRight m n)) x
noncomputable def landF (kk : IntKind) (x y : Int) : Int := wrapF kk (Int.ofNat (Nat.land (toU kk x) (toU kk y)))
noncomputable def lorF (kk : IntKind) (x y : Int) : Int := wrapF kk (Int.ofNat (Nat.lor (toU kk x) (toU kk y)))
noncomputable def lxorF (kk : IntKind) (x y : Int) : Int := wrapF kk (Int.ofNat (Nat.xor (toU kk x) (toU kk y)))
noncomputable def landnF (kk : IntKind) (x y : Int) : Int := wrapF kk (Int.ofNat (Nat.land (toU kk x) (Nat.sub (Nat.sub (kMod kk) 1) (toU kk y))))
noncomputable def shlF (kk : IntKind) (x : Int) (n : Nat) : Int := wrapF kk (Int.mul x (Int.ofNat (Nat.shiftLeft 1 (nmin n kk.bits))))

/-! ## pure -/
noncomputable def pickV (c a b : AV) (k : AV → Prop) : Prop := asB c fun c => br c (k a) (k b)
noncomputable def pickB (c a b : AV) (k : Bool → Prop) : Prop := asB c fun c => br c (asB a k) (asB b k)
noncomputable def pickI (kk : IntKind) (c a b : AV) (k : Int → Prop) : Prop := asB c fun c => br c (asI kk a k) (asI kk b k)
noncomputable def pickS (c a b : AV) (k : Str → Prop) : Prop := asB c fun c => br c (asS a k) (asS b k)
noncomputable def pickK (kd : Kd) (c a b : AV) (k : AV → Prop) : Prop :=
  match kd with
  | .bool => pickB c a b fun v => k (.bool v)
  | .int kk => pickI kk c a b fun v => k (.int kk v)
  | .str => pickS c a b fun v => k (.str v)
  | _ => pickV c a b k
noncomputable def okNil : AV → Prop → Prop := @AV.rec (fun _ => Prop → P2) (fun _ => Unit)
  (fun _ => False) (fun _ _ => False) (fun _ _ _ => False) (fun _ _ => False) (fun _ => False) (fun _ _ k => k) (fun _ => False) (fun _ _ _ _ _ _ _ => False) (fun _ => False) (fun _ _ => False)
  (fun fn _ _ _ _ k => Fn.rec (motive := fun _ => Prop) (fun _ => k) (fun _ => False) (fun _ _ => False) (fun _ _ _ _ => False) (fun _ => False) fn) (fun _ => False) (fun _ _ _ k => k) (fun _ => False) (fun _ _ _ => False) (fun _ _ _ => False) (fun _ _ => False) () (fun _ _ _ _ => ())
/-- is it nil, of a kind whose code is c? -/
noncomputable def nilB (c : Nat) (v : AV) (k : Bool → Prop) : Prop := br (Nat.beq (nilCode v) c) (k true) (ck (Nat.beq (nilCode v) (Nat.succ c)) (k false))
def kdNil : Kd → Nat
  | .ptr _ => 0
  | .slice _ => 2
  | .map _ _ => 4
  | .func => 6
  | .iface => 10
  | _ => 100
noncomputable def nilSide (kd : Kd) (x : Operand) (ρ : Operand → AV) : Bool :=
  match x with
  | .const _ => Nat.beq (nilCode (ρ x)) (kdNil kd)
  | _ => false
noncomputable def obK (o : Option AV) (k : Bool → Prop) : Prop := op' o fun v => asB v k
noncomputable def binK (T : Ty) (op : BinOp) (t : Nat) (x y : Operand) (ρ : Operand → AV) (k : AV → Prop) : Prop :=
  match (T t).kd with
  | .int kk => match op with
    | .add => asI kk (ρ x) fun a => asI kk (ρ y) fun b => fI (wrapF kk (Int.add a b)) fun z => k (.int kk z)
    | .sub => asI kk (ρ x) fun a => asI kk (ρ y) fun b => fI (wrapF kk (Int.sub a b)) fun z => k (.int kk z)
    | .mul => asI kk (ρ x) fun a => asI kk (ρ y) fun b => fI (wrapF kk (Int.mul a b)) fun z => k (.int kk z)
    | .quo => asI kk (ρ x) fun a => asI kk (ρ y) fun b => ck (Bool.not (eqI b 0)) (fI (wrapF kk (Int.tdiv a b)) fun z => k (.int kk z))
    | .rem => asI kk (ρ x) fun a => asI kk (ρ y) fun b => ck (Bool.not (eqI b 0)) (fI (Int.tmod a b) fun z => k (.int kk z))
    | .eql => asI kk (ρ x) fun a => asI kk (ρ y) fun b => fB (eqI a b) fun c => k (.bool c)
    | .neq => asI kk (ρ x) fun a => asI kk (ρ y) fun b => fB (Bool.not (eqI a b)) fun c => k (.bool c)
    | .lss => asI kk (ρ x) fun a => asI kk (ρ y) fun b => fB (ltI a b) fun c => k (.bool c)
    | .leq => asI kk (ρ x) fun a => asI kk (ρ y) fun b => fB (Bool.not (ltI b a)) fun c => k (.bool c)
    | .gtr => asI kk (ρ x) fun a => asI kk (ρ y) fun b => fB (ltI b a) fun c => k (.bool c)
    | .geq => asI kk (ρ x) fun a => asI kk (ρ y) fun b => fB (Bool.not (ltI a b)) fun c => k (.bool c)
    | .and => asI kk (ρ x) fun a => asI kk (ρ y) fun b => fI (landF kk a b) fun z => k (.int kk z)
    | .or => asI kk (ρ x) fun a => asI kk (ρ y) fun b => fI (lorF kk a b) fun z => k (.int kk z)
    | .xor => asI kk (ρ x) fun a => asI kk (ρ y) fun b => fI (lxorF kk a b) fun z => k (.int kk z)
    | .andNot => asI kk (ρ x) fun a => asI kk (ρ y) fun b => fI (landnF kk a b) fun z => k (.int kk z)
    | .shl => asI kk (ρ x) fun a => asNat (ρ y) fun n => fI (shlF kk a n) fun z => k (.int kk z)
    | .shr => asI kk (ρ x) fun a => asNat (ρ y) fun n => fI (shrF a (nmin n kk.bits)) fun z => k (.int kk z)
  | .str => match op with
    | .add => asS (ρ x) fun a => asS (ρ y) fun b => ck (Nat.ble (Nat.add a.len b.len) 9223372036854775807) (fS (a.cat b) fun s => k (.str s))
    | .eql => asS (ρ x) fun a => asS (ρ y) fun b => fB (a.beq b) fun c => k (.bool c)
    | .neq => asS (ρ x) fun a => asS (ρ y) fun b => fB (Bool.not (a.beq b)) fun c => k (.bool c)
    | .lss => asS (ρ x) fun a => asS (ρ y) fun b => fB (a.lt b) fun c => k (.bool c)
    | .leq => asS (ρ x) fun a => asS (ρ y) fun b => fB (Bool.not (b.lt a)) fun c => k (.bool c)
    | .gtr => asS (ρ x) fun a => asS (ρ y) fun b => fB (b.lt a) fun c => k (.bool c)
    | .geq => asS (ρ x) fun a => asS (ρ y) fun b => fB (Bool.not (a.lt b)) fun c => k (.bool c)
    | _ => False
  | .bool => match op with
    | .eql => asB (ρ x) fun a => asB (ρ y) fun b => fB (Bool.rec (Bool.not b) b a) fun c => k (.bool c)
    | .neq => asB (ρ x) fun a => asB (ρ y) fun b => fB (Bool.not (Bool.rec (Bool.not b) b a)) fun c => k (.bool c)
    | _ => False
  | kd => match op with
    | .eql => match nilSide kd y ρ with
      | true => nilB (kdNil kd) (ρ x) fun c => k (.bool c)
      | false => match nilSide kd x ρ with
        | true => nilB (kdNil kd) (ρ y) fun c => k (.bool c)
        | false => obK (aBin T .eql t (isCon x || isCon y) (ρ x) (ρ y)) fun c => k (.bool c)
    | .neq => match nilSide kd y ρ with
      | true => nilB (kdNil kd) (ρ x) fun c => fB (Bool.not c) fun c => k (.bool c)
      | false => match nilSide kd x ρ with
        | true => nilB (kdNil kd) (ρ y) fun c => fB (Bool.not c) fun c => k (.bool c)
        | false => obK (aBin T .neq t (isCon x || isCon y) (ρ x) (ρ y)) fun c => k (.bool c)
    | _ => False
noncomputable def faK (off : Nat) (p : AV) (k : AV → Prop) : Prop := asPtr p fun id o => fN (Nat.add o off) fun o => k (.ptr id o)
noncomputable def partK (kd : Kd) (size off : Nat) (cs : List AV) (k : AV → Prop) : Prop :=
  match kd.agg with
  | true => op' (ltake size (ldrop off cs)) fun l => k (.agg l)
  | false => op' (lgetO cs off) fun v => castK kd v k
noncomputable def ixK (size : Nat) (s i : AV) (k : AV → Prop) : Prop := asSl s False fun id off len _ _ _ => asNat i fun i => ck (Nat.blt i len) (fN (Nat.add off (Nat.mul i size)) fun o => k (.ptr id o))
noncomputable def ixaK (n size : Nat) (p i : AV) (k : AV → Prop) : Prop := asPtr p fun id off => asNat i fun i => ck (Nat.blt i n) (fN (Nat.add off (Nat.mul i size)) fun o => k (.ptr id o))
noncomputable def ixsK (s i : AV) (k : Int → Prop) : Prop := asS s fun s => asNat i fun i => ck (Nat.blt i s.len) (fN (s.get i) fun c => k (Int.ofNat c))
noncomputable def bndK (d : Nat) (x : Option AV) (k : Nat → Prop) : Prop :=
  match x with
  | none => k d
  | some v => asNat v k
noncomputable def subK (s : AV) (lo hi : Option AV) (k : Str → Prop) : Prop := asS s fun s => bndK 0 lo fun l => bndK s.len hi fun u => ck (Nat.ble u s.len) (ck (Nat.ble l u) (fS (s.sub l u) k))
noncomputable def slK (size : Nat) (v : AV) (lo hi : Option AV) (k : AV → Prop) : Prop :=
  asSl v (bndK 0 lo fun l => bndK 0 hi fun u => ck (Nat.beq l 0) (ck (Nat.beq u 0) (k .nils))) fun id off len cap es ex =>
    bndK 0 lo fun l => bndK len hi fun u => ck (Nat.ble u cap) (ck (Nat.ble l u) (ck (Nat.beq es size) (br (Nat.beq cap l)
      (fN (Nat.sub u l) fun n => k (.slice id off n 0 es ex))
      (fN (Nat.add off (Nat.mul l size)) fun o => fN (Nat.sub u l) fun n => fN (Nat.sub cap l) fun c => k (.slice id o n c es ex)))))
/-- parts, laid over a row of cells -/
noncomputable def fillK (T : Ty) (ρ : Operand → AV) (place : Nat → Option (Nat × Nat)) : List (Nat × Operand) → List AV → (List AV → Prop) → Prop
  | [], cs, k => k cs
  | (i, x) :: r, cs, k => match place i with
    | some (off, t) => match (T t).kd.agg with
      | true => asAgg (ρ x) fun xs => ck (Nat.beq xs.length (T t).size) (op' (lputAt off xs cs) fun cs => fillK T ρ place r cs k)
      | false => match Nat.beq 1 (T t).size with
        | true => match (T t).kd with
          | .bool => asB (ρ x) fun v => op' (lputAt off [.bool v] cs) fun cs => fillK T ρ place r cs k
          | .int kk => asI kk (ρ x) fun v => op' (lputAt off [.int kk v] cs) fun cs => fillK T ρ place r cs k
          | .str => asS (ρ x) fun v => op' (lputAt off [.str v] cs) fun cs => fillK T ρ place r cs k
          | _ => ck (isOne (ρ x)) (op' (lputAt off [ρ x] cs) fun cs => fillK T ρ place r cs k)
        | false => False
    | none => False
def placeS (T : Ty) (fs : List (Nat × Nat)) (i : Nat) : Option (Nat × Nat) :=
  match fs[i]? with
  | some (off, t) => match (T t).kd.known with
    | true => some (off, t)
    | false => none
  | none => none
def placeA (T : Ty) (e : Nat) (i : Nat) : Option (Nat × Nat) := some (Nat.mul i (T e).size, e)
noncomputable def lappK {α : Type} (a b : List α) (k : List α → Prop) : Prop := List.rec (motive := fun _ => (List α → Prop) → Prop) (fun k => k b) (fun x _ ih k => ih fun r => k (x :: r)) a k
theorem lappK_eq {α : Type} (a b : List α) (k : List α → Prop) : lappK a b k = k (lapp a b) := by
  induction a generalizing k with
  | nil => rfl
  | cons x a ih => show (lappK a b fun r => k (x :: r)) = _; rw [ih]; rfl

/-! ## reading, writing -/
noncomputable def toStrK (v : AV) (h : H) (k : Str → Prop) : Prop := asSl v (k ⟨0, 0⟩) fun id off len _ _ _ => asRow' (h.get id) (fun _ _ _ => False) fun _ _ _ s => fN (Nat.add off len) fun e => ck (Nat.ble e s.len) (fS (s.sub off e) k)
noncomputable def ldK (T : Ty) (t : Nat) (p : AV) (h : H) (k : AV → Prop) : Prop :=
  match (T t).kd with
  | .bool => ldB p h fun b => k (.bool b)
  | .int kk => ldI kk p h fun n => k (.int kk n)
  | .str => ldS p h fun s => k (.str s)
  | .struct _ => ldN (T t).size p h fun l => k (.agg l)
  | .arr _ _ => ldN (T t).size p h fun l => k (.agg l)
  | .other => False
  | _ => ldV p h k
noncomputable def stK (T : Ty) (t : Nat) (p x : AV) (h : H) (k : H → Prop) : Prop :=
  match (T t).kd.known && Nat.ble 0 (T t).size with
  | true => match (T t).kd.agg with
    | true => asAgg x fun xs => stN (T t).size p xs h k
    | false => match Nat.beq 1 (T t).size with
      | true => stV p x h k
      | false => False
  | false => False
/-- what is appended -/
noncomputable def srcB (kd : Kd) (x : AV) (h : H) (k : Str → Prop) : Prop :=
  match kd with
  | .str => asS x k
  | _ => toStrK x h k
noncomputable def srcC (size : Nat) (x : AV) (h : H) (k : Nat → List AV → Prop) : Prop := asSl x (k 0 []) fun id off len _ _ _ => asRow' (h.get id) (fun _ _ cs => op' (ltake (Nat.mul len size) (ldrop off cs)) fun l => k len l) fun _ _ _ _ => False
noncomputable def apB (kd : Kd) (e : Nat) (s x : AV) (h : H) (k : AV → H → Prop) : Prop := srcB kd x h fun src =>
  asSl s (br (Nat.beq src.len 0) (k .nils h) (ck (Nat.ble src.len mostRoom) (pushK (.bytes e 0 false src) h fun i h' => k (.slice i 0 src.len src.len 1 false) h')))
    fun id off len cap es ex => asRow' (h.get id) (fun _ _ _ => False) fun t fz sg str => fN (Nat.add len src.len) fun need => fN (Nat.add off len) fun ol => br (Nat.ble need cap)
      (br (Nat.beq src.len 0) (k (.slice id off len cap es ex) h) (ck (Nat.ble (Nat.add off need) str.len) (ck (Nat.ble fz ol)
        (fS (Str.cat (Str.cat (str.sub 0 ol) src) (str.sub (Nat.add off need) str.len)) fun s' => putK id (.bytes t fz sg s') h fun h' => k (.slice id off need cap es ex) h'))))
      (ck (Nat.ble need mostRoom) (ck (Nat.ble ol str.len) (fS (Str.cat (str.sub off ol) src) fun s' => br ex
        (pushK (.bytes e 0 false s') h fun i h' => k (.slice i 0 need need 1 false) h')
        (ck (Nat.beq es 1) (ck (Nat.beq t e) (ck (br' (Nat.blt 0 cap) (Nat.ble fz ol) (Nat.beq fz 0)) (putK id .dead h fun h1 => pushK (.bytes e (fzSub fz off) sg s') h1 fun i h' => k (.slice i 0 need need 1 false) h')))))))
where
  br' (c a b : Bool) : Bool := Bool.rec (motive := fun _ => Bool) b a c
noncomputable def apC (e size bytes : Nat) (s x : AV) (h : H) (k : AV → H → Prop) : Prop := srcC size x h fun n src =>
  asSl s (br (Nat.beq n 0) (k .nils h) (ck (Nat.ble (Nat.mul n bytes) mostRoom) (pushK (.cells false e src) h fun i h' => k (.slice i 0 n n size false) h')))
    fun id off len cap es ex => asRow' (h.get id) (fun mv t cs => fN (Nat.add len n) fun need => br (Nat.ble need cap)
      (br (Nat.beq n 0) (k (.slice id off len cap es ex) h) (ck (allOnes src) (op' (lputAt (Nat.add off (Nat.mul len size)) src cs) fun cs' => putK id (.cells mv t cs') h fun h' => k (.slice id off need cap es ex) h')))
      (ck (Nat.ble (Nat.mul need bytes) mostRoom) (op' (ltake (Nat.mul len size) (ldrop off cs)) fun old => lappK old src fun new => br ex
        (pushK (.cells false e new) h fun i h' => k (.slice i 0 need need size false) h')
        (ck (Nat.beq es size) (ck (Nat.beq t e) (ck (allOnes src) (putK id .dead h fun h1 => pushK (.cells true e new) h1 fun i h' => k (.slice i 0 need need size false) h')))))))
      fun _ _ _ _ => False
/-- the block that a map's store leaves -/
noncomputable def mapBlk (T : Ty) (k : Nat) (m i v : AV) (h : H) : Option (Nat × Blk) :=
  match m with
  | .map id => match h.get id with
    | .amap es clock => match (T k).kd.scalar with
      | true => match aFind (T k).kd i es 0 with
        | some (some (j, _, n)) => some (id, .amap (lset es j (i, v, n)) clock)
        | some none => some (id, .amap (lapp es [(i, v, clock)]) (Nat.succ clock))
        | none => none
      | false => none
    | .smap es => match (T k).kd.scalar with
      | true => match aFindC (T k).kd i es with
        | some (some _) => some (id, .smap (replC (T k).kd i v es))
        | some none => some (id, .smap (insC (i, v) es))
        | none => none
      | false => none
    | _ => none
  | _ => none
noncomputable def mapBlkD (T : Ty) (k : Nat) (m i : AV) (h : H) : Option (Option (Nat × Blk)) :=
  match (T k).kd.scalar with
  | true => match m with
    | .nilm => some none
    | .map id => match h.get id with
      | .amap es clock => match aFind (T k).kd i es 0 with
        | some (some (j, _, _)) => some (some (id, .amap (lrem j es) clock))
        | some none => some (some (id, .amap es clock))
        | none => none
      | .smap es => match aFindC (T k).kd i es with
        | some (some _) => some (some (id, .smap (delC (T k).kd i es)))
        | some none => some (some (id, .smap es))
        | none => none
      | _ => none
    | _ => none
  | false => none
noncomputable def callK (G : Gam) (f : AV) (args : List AV) (h : H) (k : AV → H → Prop) : Prop :=
  match f with
  | .func (.func g) first captured => G.fn g (first ++ (args ++ captured)) h k
  | .yield id => yieldK G id args h k
  | _ => False

/-- one operation; ty: its result's type -/
noncomputable def opF (T : Ty) (G : Gam) (ty : Nat) (o : Op) (ρ : Operand → AV) (h : H) (k : AV → H → Prop) : Prop :=
  match o with
  | .move x => k (ρ x) h
  | .assign x => k (ρ x) h
  | .pick c a b => pickK (T ty).kd (ρ c) (ρ a) (ρ b) fun v => k v h
  | .nilCheck x => okNil (ρ x) (k (ρ x) h)
  | .binOp op t x y _ => binK T op t x y ρ fun v => k v h
  | .unOp op _ x => match op with
    | .not => asB (ρ x) fun b => fB (Bool.not b) fun b => k (.bool b) h
    | op => op' (aUn op (ρ x)) fun v => castK (T ty).kd v fun v => k v h
  | .convert s d x => match (T s).kd, (T d).kd with
    | .int k1, .int k2 => asI k1 (ρ x) fun n => fI (wrapF k2 n) fun z => k (.int k2 z) h
    | .str, .str => asS (ρ x) fun s => k (.str s) h
    | .slice e, .str => match (T e).kd.isU8 with
      | true => toStrK (ρ x) h fun s => k (.str s) h
      | false => False
    | .str, .slice e => match (T e).kd.isU8 with
      | true => asS (ρ x) fun s => pushK (.bytes e 0 true s) h fun n h' => k (.slice n 0 s.len s.len 1 false) h'
      | false => False
    | _, _ => opX T G (.convert s d x) ρ h k
  | .fieldAddr t x f => match fieldOf T t f with
    | some (off, _) => faK off (ρ x) fun v => k v h
    | none => False
  | .field t x f => match fieldOf T t f with
    | some (off, ft) => asAgg (ρ x) fun cs => partK (T ft).kd (T ft).size off cs fun v => k v h
    | none => False
  | .indexAddr t x i => match (T t).kd with
    | .slice e => match (T e).kd.known with
      | true => ixK (T e).size (ρ x) (ρ i) fun v => k v h
      | false => False
    | .arr n e => match (T e).kd.known with
      | true => ixaK n (T e).size (ρ x) (ρ i) fun v => k v h
      | false => False
    | _ => False
  | .index t x i => match (T t).kd with
    | .str => ixsK (ρ x) (ρ i) fun n => k (.int .u8 n) h
    | .arr n e => match (T e).kd.known with
      | true => asAgg (ρ x) fun cs => asNat (ρ i) fun i => ck (Nat.blt i n) (fN (Nat.mul i (T e).size) fun o => partK (T e).kd (T e).size o cs fun v => k v h)
      | false => False
    | _ => False
  | .slice t x lo hi none => match (T t).kd with
    | .str => subK (ρ x) (lo.map ρ) (hi.map ρ) fun s => k (.str s) h
    | .slice e => match (T e).kd.known with
      | true => slK (T e).size (ρ x) (lo.map ρ) (hi.map ρ) fun v => k v h
      | false => False
    | _ => False
  | .extract x i => asTup (ρ x) fun vs => op' (lgetO vs i) fun v => castK (T ty).kd v fun v => k v h
  | .build t ps => match (T t).kd with
    | .struct fs => match fs.all (fun p => (T p.2).kd.known) with
      | true => fillK T ρ (placeS T fs) ps.toList (T t).zero fun cs => k (.agg cs) h
      | false => False
    | .arr _ e => match (T e).kd.known with
      | true => fillK T ρ (placeA T e) ps.toList (T t).zero fun cs => k (.agg cs) h
      | false => False
    | _ => False
  | .load t a => ldK T t (ρ a) h fun v => k v h
  | .store t a x => stK T t (ρ a) (ρ x) h (k .junk)
  | .alloc e => match (T e).kd.known with
    | true => pushK (.cells false e (T e).zero) h fun n h' => k (.ptr n 0) h'
    | false => False
  | .box e x => match (T e).kd.agg with
    | true => asAgg (ρ x) fun cs => pushK (.cells false e cs) h fun n h' => k (.ptr n 0) h'
    | false => ck (isOne (ρ x)) (pushK (.cells false e [ρ x]) h fun n h' => k (.ptr n 0) h')
  | .buildSlice t n ps => match (T t).kd with
    | .slice e => match rowOk T e && Nat.ble 0 n && Nat.ble (Nat.mul n (T e).size) 16777216 with
      | true => fillK T ρ (placeA T e) ps.toList (lrep n (T e).zero) fun cs => op' (asRow (T e).kd.isU8 e cs) fun b => pushK b h fun i h' => k (.slice i 0 n n (T e).size true) h'
      | false => False
    | _ => False
  | .makeSlice t l c => op' (opA T (.makeSlice t l c) ρ) fun p => pushK p.1 h fun n h' => k (p.2 n) h'
  | .lookup t x i ok => match (T t).kd with
    | .map kt e => op' (aLookup T kt e ok (ρ x) (ρ i) h) fun v => castK (T ty).kd v fun v => k v h
    | _ => False
  | .mapUpdate t m i v => match (T t).kd with
    | .map kt _ => op' (mapBlk T kt (ρ m) (ρ i) (ρ v) h) fun p => putK p.1 p.2 h (k .junk)
    | _ => False
  | .makeMap _ none => pushK (.smap []) h fun n h' => k (.map n) h'
  | .range t x => match (T t).kd with
    | .map _ _ => aRangeK (ρ x) h k
    | _ => False
  | .next i false => aNext (ρ i) h k
  | .call { callee := .builtin .len, args, argTypes } => match args.toList, argTypes.toList with
    | [x], [t] => match (T t).kd with
      | .str => asS (ρ x) fun s => k (.int .i64 (Int.ofNat s.len)) h
      | .slice _ => asSl (ρ x) (k (.int .i64 (Int.ofNat 0)) h) fun _ _ len _ _ _ => k (.int .i64 (Int.ofNat len)) h
      | .map _ _ => op' (aLenMap (ρ x) h) fun v => k v h
      | _ => False
    | _, _ => False
  | .call { callee := .builtin .append, args, argTypes } => match args.toList, argTypes.toList with
    | [s, x], [t, t2] => match (T t).kd with
      | .slice e => match rowOk T e && strOrSlice (T t2).kd with
        | true => match (T e).kd.isU8 && Nat.beq (T e).size 1 && Nat.beq (T e).bytes 1 with
          | true => apB (T t2).kd e (ρ s) (ρ x) h k
          | false => apC e (T e).size (T e).bytes (ρ s) (ρ x) h k
        | false => False
      | _ => False
    | _, _ => False
  | .call { callee := .builtin .delete, args, argTypes } => match args.toList, argTypes.toList with
    | [m, i], [t, _] => match (T t).kd with
      | .map kt _ => op' (mapBlkD T kt (ρ m) (ρ i) h) fun p => match p with
        | some q => putK q.1 q.2 h (k (.tuple []))
        | none => k (.tuple []) h
      | _ => False
    | _, _ => False
  | .call { callee := .builtin .min, args, argTypes } => op' (opP T (.call { callee := .builtin .min, args, argTypes }) ρ) fun v => castK (T ty).kd v fun v => k v h
  | .call { callee := .builtin .max, args, argTypes } => op' (opP T (.call { callee := .builtin .max, args, argTypes }) ρ) fun v => castK (T ty).kd v fun v => k v h
  | .call { callee := .value f, args, .. } => callK G (ρ f) (args.toList.map ρ) h fun v h' => castK (T ty).kd v fun v => k v h'
  | .typeAssert x _ a ok => op' (aAssert T a ok (ρ x)) fun v => castK (T ty).kd v fun v => k v h
  | o => opX T G o ρ h k
end Go.Am
