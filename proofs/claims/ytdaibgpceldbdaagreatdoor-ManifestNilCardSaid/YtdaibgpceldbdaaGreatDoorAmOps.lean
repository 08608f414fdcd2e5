/- The operations of the functional semantics. -/
import Derived.Test.YtdaibgpceldbdaaGreatDoorAmInt
import Derived.Test.YtdaibgpceldbdaaGreatDoorAmHeap
namespace Go.Am
open Go

/-! ## the table of types -/
inductive Kd where
  | other | bool | int (k : IntKind) | str | unsafe_ | ptr (e : Nat) | slice (e : Nat) | arr (n e : Nat) | struct (fs : List (Nat × Nat)) | map (k e : Nat) | func | iface
structure TI where
  kd : Kd
  size : Nat
  bytes : Nat
  zero : List AV
  /-- '==' on it asks nothing of interfaces, and of no package that is stood in for -/
  eqp : Bool
abbrev Ty := Nat → TI
def Kd.agg : Kd → Bool
  | .struct _ | .arr _ _ => true
  | _ => false
def Kd.known : Kd → Bool
  | .other => false
  | _ => true
def Kd.isU8 : Kd → Bool
  | .int .u8 => true
  | _ => false

/-! ## lists -/
noncomputable def ldrop {α : Type} (n : Nat) (l : List α) : List α :=
  Nat.rec (motive := fun _ => List α → List α) (fun l => l) (fun _ ih l => List.rec (motive := fun _ => List α) [] (fun _ t _ => ih t) l) n l
noncomputable def ltake {α : Type} (n : Nat) (l : List α) : Option (List α) :=
  Nat.rec (motive := fun _ => List α → Option (List α)) (fun _ => some []) (fun _ ih l => List.rec (motive := fun _ => Option (List α)) none (fun a t _ => Option.rec none (fun r => some (a :: r)) (ih t)) l) n l
noncomputable def lput {α : Type} (vs : List α) (l : List α) : Option (List α) :=
  List.rec (motive := fun _ => List α → Option (List α)) (fun l => some l) (fun v _ ih l => List.rec (motive := fun _ => Option (List α)) none (fun _ t _ => Option.rec none (fun r => some (v :: r)) (ih t)) l) vs l
noncomputable def lputAt {α : Type} (off : Nat) (vs : List α) (l : List α) : Option (List α) :=
  Nat.rec (motive := fun _ => List α → Option (List α)) (fun l => lput vs l) (fun _ ih l => List.rec (motive := fun _ => Option (List α)) none (fun a t _ => Option.rec none (fun r => some (a :: r)) (ih t)) l) off l
noncomputable def lgetO {α : Type} (l : List α) (i : Nat) : Option α :=
  List.rec (motive := fun _ => Nat → Option α) (fun _ => none) (fun a _ ih i => Nat.rec (motive := fun _ => Option α) (some a) (fun j _ => ih j) i) l i
theorem ldrop_eq {α : Type} : ∀ (n : Nat) (l : List α), ldrop n l = l.drop n
  | 0, l => rfl
  | n + 1, [] => rfl
  | n + 1, _ :: t => by show ldrop n t = _; rw [ldrop_eq n t]; rfl
theorem ltake_eq {α : Type} : ∀ (n : Nat) (l : List α), ltake n l = if n ≤ l.length then some (l.take n) else none
  | 0, l => by rw [if_pos (Nat.zero_le _)]; rfl
  | n + 1, [] => by rw [if_neg (by simp)]; rfl
  | n + 1, a :: t => by
    show (Option.rec none (fun r => some (a :: r)) (ltake n t) : Option (List α)) = _
    rw [ltake_eq n t]; by_cases h : n ≤ t.length
    · simp [h]
    · simp [h]
theorem lput_eq {α : Type} : ∀ (vs l : List α), lput vs l = if vs.length ≤ l.length then some (vs ++ l.drop vs.length) else none
  | [], l => by rw [if_pos (by simp)]; rfl
  | v :: vs, [] => by rw [if_neg (by simp)]; rfl
  | v :: vs, a :: t => by
    show (Option.rec none (fun r => some (v :: r)) (lput vs t) : Option (List α)) = _
    rw [lput_eq vs t]; by_cases h : vs.length ≤ t.length
    · simp [h]
    · simp [h]
theorem lputAt_eq {α : Type} (vs : List α) : ∀ (off : Nat) (l : List α), lputAt off vs l = if off + vs.length ≤ l.length then some (l.take off ++ vs ++ l.drop (off + vs.length)) else none
  | 0, l => by show lput vs l = _; rw [lput_eq]; simp
  | off + 1, [] => by
    show none = _
    rw [if_neg (by simp)]
  | off + 1, a :: t => by
    show (Option.rec none (fun r => some (a :: r)) (lputAt off vs t) : Option (List α)) = _
    rw [lputAt_eq vs off t]; by_cases h : off + vs.length ≤ t.length
    · have h' : off + 1 + vs.length ≤ (a :: t).length := by simp; omega
      rw [if_pos h, if_pos h', show off + 1 + vs.length = (off + vs.length) + 1 from by omega]; simp
    · have h' : ¬ off + 1 + vs.length ≤ (a :: t).length := by simp; omega
      rw [if_neg h, if_neg h']
theorem lgetO_eq {α : Type} : ∀ (l : List α) (i : Nat), lgetO l i = l[i]?
  | [], i => rfl
  | a :: t, 0 => rfl
  | a :: t, i + 1 => by show lgetO t i = _; rw [lgetO_eq t i]; simp

/-! ## values -/
def acells : AV → Option (List AV)
  | .junk | .tuple _ => none
  | .agg cs => some cs
  | v => some [v]
def AV.one : AV → Bool
  | .junk | .agg _ | .tuple _ => false
  | _ => true
def allOne : List AV → Bool
  | [] => true
  | a :: t => match a.one with
    | true => allOne t
    | false => false
def ofVal : Value → AV
  | .bool b => .bool b
  | .int k n => .int k n
  | .string s => .str (Str.of s.data.toList)
  | .pointer none => .nilp
  | .slice none 0 0 => .nils
  | .map none => .nilm
  | .nilFunc => .nilf
  | .nilIface => .nili
  | _ => .junk

/-! ## reading and writing -/
noncomputable def aLoad1 (v : AV) (h : H) : Option AV :=
  match v with
  | .ptr id off => match h.get id with
    | .cells _ _ cs => lgetO cs off
    | .bytes _ _ _ s => Bool.rec none (some (.int .u8 (Int.ofNat (s.get off)))) (Nat.blt off s.len)
    | _ => none
  | _ => none
noncomputable def aLoadN (n : Nat) (v : AV) (h : H) : Option AV :=
  match v with
  | .ptr id off => match h.get id with
    | .cells _ _ cs => match ltake n (ldrop off cs) with
      | some l => some (.agg l)
      | none => none
    | _ => none
  | _ => none
noncomputable def aStore (n : Nat) (v x : AV) (h : H) : Option H :=
  match v with
  | .ptr id off => match h.get id with
    | .cells mv t cs => match acells x with
      | some xs => Bool.rec none (Bool.rec none (match lputAt off xs cs with
        | some cs' => h.put id (.cells mv t cs')
        | none => none) (allOne xs)) (Nat.beq xs.length n)
      | none => none
    | .bytes t fz sg s => match x with
      | .int .u8 (.ofNat c) => Bool.rec none (Bool.rec none (Bool.rec none (Bool.rec none (h.put id (.bytes t fz sg (s.set off c))) (Nat.beq n 1)) (Nat.blt c 256)) (Nat.ble fz off)) (Nat.blt off s.len)
      | _ => none
    | _ => none
  | _ => none

/-! ## places -/
def aFieldAddr (foff : Nat) (v : AV) : Option AV :=
  match v with
  | .ptr id off => some (.ptr id (Nat.add off foff))
  | _ => none
noncomputable def aPart (agg : Bool) (n off : Nat) (cs : List AV) : Option AV :=
  match agg with
  | true => match ltake n (ldrop off cs) with
    | some l => some (.agg l)
    | none => none
  | false => lgetO cs off
noncomputable def aField (agg : Bool) (n foff : Nat) (v : AV) : Option AV :=
  match v with
  | .agg cs => aPart agg n foff cs
  | _ => none
noncomputable def aIndexAddr (size : Nat) (v i : AV) : Option AV :=
  match v, i with
  | .slice id off len _ _ _, .int _ (.ofNat i) => Bool.rec none (seqN (Nat.add off (Nat.mul i size)) fun o => some (.ptr id o)) (Nat.blt i len)
  | _, _ => none
noncomputable def aIndexArrAddr (len size : Nat) (v i : AV) : Option AV :=
  match v, i with
  | .ptr id off, .int _ (.ofNat i) => Bool.rec none (seqN (Nat.add off (Nat.mul i size)) fun o => some (.ptr id o)) (Nat.blt i len)
  | _, _ => none
noncomputable def aIndexStr (v i : AV) : Option AV :=
  match v, i with
  | .str s, .int _ (.ofNat i) => Bool.rec none (seqN (s.get i) fun c => some (.int .u8 (Int.ofNat c))) (Nat.blt i s.len)
  | _, _ => none
noncomputable def aIndexArr (len : Nat) (agg : Bool) (size : Nat) (v i : AV) : Option AV :=
  match v, i with
  | .agg cs, .int _ (.ofNat i) => Bool.rec none (aPart agg size (Nat.mul i size) cs) (Nat.blt i len)
  | _, _ => none
/-- a bound of a slice expression: given or not -/
def bnd (d : Nat) (x : Option AV) : Option Nat :=
  match x with
  | none => some d
  | some (.int _ (.ofNat n)) => some n
  | _ => none
noncomputable def aSliceStr (v : AV) (lo hi : Option AV) : Option AV :=
  match v with
  | .str s => match bnd 0 lo, bnd s.len hi with
    | some l, some h => Bool.rec none (Bool.rec none (some (.str (s.sub l h))) (Nat.ble l h)) (Nat.ble h s.len)
    | _, _ => none
  | _ => none
noncomputable def aSliceSl (size : Nat) (v : AV) (lo hi mx : Option AV) : Option AV :=
  match v with
  | .slice id off len cap es ex => match bnd 0 lo, bnd len hi, mx with
    | some l, some h, none => Bool.rec none (Bool.rec none (Bool.rec none (Bool.rec
        (seqN (Nat.add off (Nat.mul l size)) fun o => seqN (Nat.sub h l) fun n => seqN (Nat.sub cap l) fun c => some (.slice id o n c es ex))
        (seqN (Nat.sub h l) fun n => some (.slice id off n 0 es ex))
        (Nat.beq cap l)) (Nat.beq es size)) (Nat.ble l h)) (Nat.ble h cap)
    | _, _, _ => none
  | .nils => match bnd 0 lo, bnd 0 hi, mx with
    | some 0, some 0, none => some .nils
    | _, _, _ => none
  | _ => none

/-- with a bound of its capacity -/
noncomputable def aSlice3 (size : Nat) (v : AV) (lo hi : Option AV) (mx : AV) : Option AV :=
  match v with
  | .slice id off len cap es _ => match bnd 0 lo, hi, mx with
    | some l, some (.int _ (.ofNat h)), .int _ (.ofNat m) => Bool.rec none (Bool.rec none (Bool.rec none (Bool.rec none (Bool.rec
        (seqN (Nat.add off (Nat.mul l size)) fun o => seqN (Nat.sub h l) fun n => seqN (Nat.sub m l) fun c => some (.slice id o n c es true))
        (seqN (Nat.sub h l) fun n => some (.slice id off n 0 es true))
        (Nat.beq m l)) (Nat.beq es size)) (Nat.ble l h)) (Nat.ble h m)) (Nat.ble m cap)
    | _, _, _ => none
  | _ => none

/-! ## '==' -/
noncomputable def eqAV (T : Ty) : Nat → Nat → AV → AV → Option Bool
  | 0, _, _, _ => none
  | f + 1, t, x, y =>
    match (T t).kd, x, y with
    | .bool, .bool a, .bool b => some (Bool.rec (Bool.not b) b a)
    | .int _, .int k a, .int k' b => Bool.rec none (some (eqI a b)) (keq k k')
    | .str, .str a, .str b => some (a.beq b)
    | .ptr _, .nilp, .nilp => some true
    | .ptr _, .nilp, .ptr _ _ => some false
    | .ptr _, .ptr _ _, .nilp => some false
    | .slice _, .nils, .nils => some true
    | .slice _, .nils, .slice _ _ _ _ _ _ => some false
    | .slice _, .slice _ _ _ _ _ _, .nils => some false
    | .map _ _, .nilm, .nilm => some true
    | .map _ _, .nilm, .map _ => some false
    | .map _ _, .map _, .nilm => some false
    | .func, .nilf, .nilf => some true
    | .func, .nilf, .func _ _ _ => some false
    | .func, .func _ _ _, .nilf => some false
    | .iface, .nili, .nili => some true
    | .iface, .nili, .iface _ _ => some false
    | .iface, .iface _ _, .nili => some false
    | .ptr e, .ptr i a, .ptr j b => match Bool.and (T e).kd.known (Bool.and (Nat.ble 1 (T e).size) (Nat.beq i j)) with
      | true => some (Nat.beq a b)
      | false => none
    | .struct fs, .agg xs, .agg ys => match (T t).eqp with
      | true => eqFs (eqAV T f) xs ys fs
      | false => none
    | _, _, _ => none
where
  eqFs (eq : Nat → AV → AV → Option Bool) (xs ys : List AV) : List (Nat × Nat) → Option Bool
    | [] => some true
    | (off, t) :: fs => match aPart (T t).kd.agg (T t).size off xs, aPart (T t).kd.agg (T t).size off ys with
      | some a, some b => match eq t a b with
        | some true => eqFs eq xs ys fs
        | some false => some false
        | none => none
      | _, _ => none

noncomputable def binS (op : BinOp) (a b : Str) : Option AV :=
  match op with
  | .add => Bool.rec none (some (.str (a.cat b))) (Nat.ble (Nat.add a.len b.len) 9223372036854775807)
  | .eql => some (.bool (a.beq b))
  | .neq => some (.bool (Bool.not (a.beq b)))
  | .lss => some (.bool (a.lt b))
  | .leq => some (.bool (Bool.not (b.lt a)))
  | .gtr => some (.bool (b.lt a))
  | .geq => some (.bool (Bool.not (a.lt b)))
  | _ => none
/-- the nil interface value against itself wants a literal nil -/
def isCon : Operand → Bool
  | .const _ => true
  | _ => false
noncomputable def aBin (T : Ty) (op : BinOp) (t : Nat) (con : Bool) (a b : AV) : Option AV :=
  match op, a, b with
  | .shl, .int k x, .int _ y => (shlI k x y).map (.int k)
  | .shr, .int k x, .int _ y => (shrI k x y).map (.int k)
  | op, .int k x, .int k' y => Bool.rec none (binI op k x y) (keq k k')
  | op, .str x, .str y => binS op x y
  | .eql, .nili, .nili => match con with
    | true => (eqAV T 20 t .nili .nili).map .bool
    | false => none
  | .neq, .nili, .nili => match con with
    | true => (eqAV T 20 t .nili .nili).map fun b => .bool (Bool.not b)
    | false => none
  | .eql, x, y => (eqAV T 20 t x y).map .bool
  | .neq, x, y => (eqAV T 20 t x y).map fun b => .bool (Bool.not b)
  | _, _, _ => none
noncomputable def aUn (op : UnOp) (x : AV) : Option AV :=
  match op, x with
  | .neg, .int k n => some (.int k (wrapF k (Int.sub 0 n)))
  | .not, .bool b => some (.bool (Bool.not b))
  | .xor, .int k n => (bitsI .xor k (Bool.rec (Int.ofNat (Nat.sub (kMod k) 1)) (-1) k.signed) n).map (.int k)
  | _, _ => none
def aPick (c a b : AV) : Option AV :=
  match c with
  | .bool true => some a
  | .bool false => some b
  | _ => none
def aNilCheck (v : AV) : Option AV :=
  match v with
  | .ptr i f => some (.ptr i f)
  | .iface t x => some (.iface t x)
  | .func (.func f) a b => some (.func (.func f) a b)
  | _ => none
/-- the parts of a struct value, laid over its zero -/
noncomputable def aFill : List AV → List (Nat × Nat × AV) → Option (List AV)
  | cs, [] => some cs
  | cs, (off, size, v) :: rest => match acells v with
    | some xs => Bool.rec none (match lputAt off xs cs with
      | some cs' => aFill cs' rest
      | none => none) (Nat.beq xs.length size)
    | none => none
noncomputable def aBuild (zero : List AV) (parts : List (Nat × Nat × AV)) : Option AV :=
  match aFill zero parts with
  | some cs => some (.agg cs)
  | none => none
def aExtract (i : Nat) (v : AV) : Option AV :=
  match v with
  | .tuple vs => vs[i]?
  | _ => none
def aLenStr (v : AV) : Option AV :=
  match v with
  | .str s => some (.int .i64 (Int.ofNat s.len))
  | _ => none
def aLenSl (v : AV) : Option AV :=
  match v with
  | .nils => some (.int .i64 (Int.ofNat 0))
  | .slice _ _ len _ _ _ => some (.int .i64 (Int.ofNat len))
  | _ => none
noncomputable def aInt (k : IntKind) (v : AV) : Option AV :=
  match v with
  | .int _ n => some (.int k (wrapF k n))
  | _ => none
/-- []byte to string -/
noncomputable def aToStr (v : AV) (h : H) : Option AV :=
  match v with
  | .nils => some (.str ⟨0, 0⟩)
  | .slice id off len _ _ _ => match h.get id with
    | .bytes _ _ _ s => Bool.rec none (some (.str (s.sub off (Nat.add off len)))) (Nat.ble (Nat.add off len) s.len)
    | _ => none
  | _ => none
end Go.Am
namespace Go.Am
open Go
/-! ## new blocks -/
noncomputable def lapp {α : Type} (a b : List α) : List α := List.rec (motive := fun _ => List α) b (fun x _ ih => x :: ih) a
theorem lapp_eq {α : Type} (a b : List α) : lapp a b = a ++ b := by
  induction a with
  | nil => rfl
  | cons x a ih => show x :: lapp a b = _; rw [ih]; rfl
/-- n times over -/
noncomputable def lrep {α : Type} (n : Nat) (z : List α) : List α := Nat.rec (motive := fun _ => List α) [] (fun _ ih => lapp z ih) n
theorem lrep_succ {α : Type} (n : Nat) (z : List α) : lrep (n + 1) z = z ++ lrep n z := lapp_eq _ _
/-- bytes, as one text -/
noncomputable def toBytes : List AV → Option Str
  | [] => some ⟨0, 0⟩
  | .int .u8 (.ofNat c) :: r => Bool.rec none (match toBytes r with
    | some s => some (Str.cat ⟨1, c⟩ s)
    | none => none) (Nat.blt c 256)
  | _ :: _ => none
noncomputable def asRow (u8 : Bool) (t : Nat) (cs : List AV) : Option Blk :=
  match u8 with
  | true => match toBytes cs with
    | some s => some (.bytes t 0 false s)
    | none => none
  | false => some (.cells false t cs)
def aAlloc (t : Nat) (zero : List AV) : Option (Blk × (Nat → AV)) := some (.cells false t zero, fun n => .ptr n 0)
def aBox (t : Nat) (x : AV) : Option (Blk × (Nat → AV)) :=
  match acells x with
  | some cs => some (.cells false t cs, fun n => .ptr n 0)
  | none => none
noncomputable def aBuildSlice (size : Nat) (u8 : Bool) (t : Nat) (zero : List AV) (n : Nat) (parts : List (Nat × Nat × AV)) : Option (Blk × (Nat → AV)) :=
  match aFill (lrep n zero) parts with
  | some cs => match asRow u8 t cs with
    | some k => some (k, fun i => .slice i 0 n n size true)
    | none => none
  | none => none
noncomputable def aMakeSlice (size : Nat) (u8 : Bool) (t : Nat) (zero : List AV) (bytes : Nat) (l c : AV) : Option (Blk × (Nat → AV)) :=
  match l, c with
  | .int _ (.ofNat l), .int _ (.ofNat c) => Bool.rec none (Bool.rec none (match asRow u8 t (lrep c zero) with
    | some k => some (k, fun i => .slice i 0 l c size true)
    | none => none) (Nat.ble (Nat.mul bytes c) 140737488355328)) (Bool.rec false (Nat.ble l c) (Nat.ble c 9223372036854775807))
  | _, _ => none
def aStrBytes (e : Nat) (x : AV) : Option (Blk × (Nat → AV)) :=
  match x with
  | .str s => some (.bytes e 0 true s, fun n => .slice n 0 s.len s.len 1 false)
  | _ => none
noncomputable def aNew (a : Option (Blk × (Nat → AV))) (h : H) : Option (AV × H) :=
  match a with
  | some (k, f) => match h.push k with
    | some (n, h') => some (f n, h')
    | none => none
  | none => none
end Go.Am
namespace Go.Am
open Go
/-! ## append -/
noncomputable def aSrcB (x : AV) (h : H) : Option Str :=
  match x with
  | .str s => some s
  | .nils => some ⟨0, 0⟩
  | .slice id off len _ _ _ => match h.get id with
    | .bytes _ _ _ s => Bool.rec none (some (s.sub off (Nat.add off len))) (Nat.ble (Nat.add off len) s.len)
    | _ => none
  | _ => none
noncomputable def aSrcC (size : Nat) (x : AV) (h : H) : Option (Nat × List AV) :=
  match x with
  | .nils => some (0, [])
  | .slice id off len _ _ _ => match h.get id with
    | .cells _ _ cs => match ltake (Nat.mul len size) (ldrop off cs) with
      | some l => some (len, l)
      | none => none
    | _ => none
  | _ => none
/-- the greatest room that is asked: bytes -/
def mostRoom : Nat := 140737488355328
/-- what is left of the leading ones that may not be written; some are left where there were some -/
def fzSub (fz off : Nat) : Nat := Nat.add (Nat.sub fz off) (Nat.sub (Nat.sub 1 (Nat.sub fz off)) (Nat.sub 1 fz))
theorem fzSub_ge (fz off : Nat) : fz - off ≤ fzSub fz off := Nat.le_add_right _ _
theorem fzSub_pos {fz off : Nat} (h : 0 < fz) : 0 < fzSub fz off := by
  show 0 < (fz - off) + ((1 - (fz - off)) - (1 - fz)); omega
noncomputable def aPush (k : Blk) (n es : Nat) (h : H) : Option (AV × H) :=
  match h.push k with
  | some (i, h') => some (.slice i 0 n n es false, h')
  | none => none
noncomputable def aAppendB (e : Nat) (s x : AV) (h : H) : Option (AV × H) :=
  match aSrcB x h with
  | none => none
  | some src => match s with
    | .nils => Bool.rec (Bool.rec none (aPush (.bytes e 0 false src) src.len 1 h) (Nat.ble src.len mostRoom)) (some (.nils, h)) (Nat.beq src.len 0)
    | .slice id off len cap es ex => match h.get id with
      | .bytes t fz sg str => seqN (Nat.add len src.len) fun need => Bool.rec
          (Bool.rec none (Bool.rec none (let new := Str.cat (str.sub off (Nat.add off len)) src
            Bool.rec
              (Bool.rec none (match h.put id .dead with
                | some h1 => aPush (.bytes e (fzSub fz off) sg new) need 1 h1
                | none => none) (Bool.rec false (Bool.rec false (Bool.rec (Nat.beq fz 0) (Nat.ble fz (Nat.add off len)) (Nat.blt 0 cap)) (Nat.beq t e)) (Nat.beq es 1)))
              (aPush (.bytes e 0 false new) need 1 h) ex)
            (Nat.ble (Nat.add off len) str.len)) (Nat.ble need mostRoom))
          (Bool.rec
            (Bool.rec none (Bool.rec none (match h.put id (.bytes t fz sg (Str.cat (Str.cat (str.sub 0 (Nat.add off len)) src) (str.sub (Nat.add off need) str.len))) with
              | some h1 => some (.slice id off need cap es ex, h1)
              | none => none) (Nat.ble (Nat.add off need) str.len)) (Nat.ble fz (Nat.add off len)))
            (some (.slice id off len cap es ex, h)) (Nat.beq src.len 0))
          (Nat.ble need cap)
      | _ => none
    | _ => none
noncomputable def aAppendC (e size bytes : Nat) (s x : AV) (h : H) : Option (AV × H) :=
  match aSrcC size x h with
  | none => none
  | some (n, src) => match s with
    | .nils => Bool.rec (Bool.rec none (aPush (.cells false e src) n size h) (Nat.ble (Nat.mul n bytes) mostRoom)) (some (.nils, h)) (Nat.beq n 0)
    | .slice id off len cap es ex => match h.get id with
      | .cells mv t cs => seqN (Nat.add len n) fun need => Bool.rec
          (Bool.rec none (match ltake (Nat.mul len size) (ldrop off cs) with
            | some old => let new := lapp old src
              Bool.rec (Bool.rec none (match h.put id .dead with
                | some h1 => aPush (.cells true e new) need size h1
                | none => none) (Bool.rec false (Bool.rec false (allOne src) (Nat.beq t e)) (Nat.beq es size))) (aPush (.cells false e new) need size h) ex
            | none => none) (Nat.ble (Nat.mul need bytes) mostRoom))
          (Bool.rec
            (Bool.rec none (match lputAt (Nat.add off (Nat.mul len size)) src cs with
              | some cs' => match h.put id (.cells mv t cs') with
                | some h1 => some (.slice id off need cap es ex, h1)
                | none => none
              | none => none) (allOne src))
            (some (.slice id off len cap es ex, h)) (Nat.beq n 0))
          (Nat.ble need cap)
      | _ => none
    | _ => none
end Go.Am
