import GoSem.Dispatch
import Derived.Laws.Closers25
import Derived.Calls
import Derived.Orders
import Derived.WalkKit
noncomputable section
set_option linter.all false
namespace Go.Am
def WT {α:Type} (n:Nat) (k:Nat→α):α:=Nat.rec (motive:=fun _=>α) (k Nat.zero) (fun m _=>k (Nat.succ m)) n
@[simp] theorem seqN_eq {α:Type} (n:Nat) (k:Nat→α):WT n k=k n:=by cases n <;> rfl
structure Str where
  len:Nat
  val:Nat
  deriving DecidableEq
namespace Str
def num (l:List UInt8):Nat:=l.foldl (fun a b=>a * 256+b.toNat) 0
def of (l:List UInt8):Str:=⟨l.length,num l⟩
def cat (a b:Str):Str :=
  WT (Nat.add a.len b.len) fun n=>WT (Nat.add (Nat.shiftLeft a.val (Nat.mul 8 b.len)) b.val) fun v=>⟨n,v⟩
def get (s:Str) (i:Nat):Nat:=Nat.mod (Nat.shiftRight s.val (Nat.mul 8 (Nat.sub (Nat.sub s.len 1) i))) 256
def sub (s:Str) (lo hi:Nat):Str :=
  WT (Nat.sub hi lo) fun n=>WT (Nat.mod (Nat.shiftRight s.val (Nat.mul 8 (Nat.sub s.len hi))) (Nat.shiftLeft 1 (Nat.mul 8 n))) fun v=>⟨n,v⟩
def beq (a b:Str):Bool:=Bool.rec false (Nat.beq a.val b.val) (Nat.beq a.len b.len)
def lt (a b:Str):Bool :=
  Bool.rec
    (let y:=Nat.shiftLeft b.val (Nat.mul 8 (Nat.sub a.len b.len));Nat.blt a.val y)
    (let x:=Nat.shiftLeft a.val (Nat.mul 8 (Nat.sub b.len a.len));Bool.rec (Bool.rec false (Nat.blt a.len b.len) (Nat.beq x b.val)) true (Nat.blt x b.val))
    (Nat.ble a.len b.len)
def set (s:Str) (i:Nat) (b:Nat):Str:=cat (cat (sub s 0 i) ⟨1,b⟩) (sub s (Nat.succ i) s.len)
theorem pow8 (n:Nat):2 ^ (8 * (n+1))=2 ^ (8 * n) * 256:=by
  rw [show 8 * (n+1)=8 * n+8 from by omega,Nat.pow_add]
theorem DT (b:List UInt8):∀ acc:Nat,b.foldl (fun a b=>a * 256+b.toNat) acc=acc * 2 ^ (8 * b.length)+num b:=by
  induction b with
  | nil=>intro acc;simp [num]
  | cons x b ih =>
    intro acc
    have h2:num (x::b)=x.toNat * 2 ^ (8 * b.length)+num b:=by
      have:=ih (0 * 256+x.toNat);simpa [num] using this
    rw [List.foldl_cons,ih,h2,List.length_cons,pow8,Nat.add_mul,Nat.mul_assoc,Nat.mul_comm 256,Nat.add_assoc]
theorem num_cons (x:UInt8) (b:List UInt8):num (x::b)=x.toNat * 2 ^ (8 * b.length)+num b:=by
  have:=DT b (0 * 256+x.toNat);simpa [num] using this
theorem Vi (a b:List UInt8):num (a++b)=num a * 2 ^ (8 * b.length)+num b:=by
  have:=DT b (num a);simpa [num,List.foldl_append] using this
theorem Ut (l:List UInt8):num l < 2 ^ (8 * l.length):=by
  induction l with
  | nil=>simp [num]
  | cons x b ih =>
    rw [num_cons,List.length_cons,pow8]
    have hx:=x.toNat_lt
    have h1:(x.toNat+1) * 2 ^ (8 * b.length)≤256 * 2 ^ (8 * b.length):=Nat.mul_le_mul_right _ (by omega)
    rw [Nat.add_mul] at h1
    rw [Nat.mul_comm _ 256];omega
theorem cat_of (a b:List UInt8):cat (of a) (of b)=of (a++b):=by
  simp [cat,of,Vi,Nat.shiftLeft_eq]
theorem Qav:∀ {a b:List UInt8},a.length=b.length→num a=num b→a=b
  | [],[],_,_=>rfl
  | x :: a, y :: b, hl, h => by
    have hl':a.length=b.length:=by simpa using hl
    rw [num_cons,num_cons,hl'] at h
    have h1:=Ut a;have h2:=Ut b
    rw [hl'] at h1
    have hp:0 < 2 ^ (8 * b.length):=Nat.pow_pos (by omega)
    have e1:(x.toNat * 2 ^ (8 * b.length)+num a) / 2 ^ (8 * b.length)=x.toNat:=by
      rw [Nat.mul_comm,Nat.mul_add_div hp,Nat.div_eq_of_lt h1];omega
    have e2:(y.toNat * 2 ^ (8 * b.length)+num b) / 2 ^ (8 * b.length)=y.toNat:=by
      rw [Nat.mul_comm,Nat.mul_add_div hp,Nat.div_eq_of_lt h2];omega
    have hx:x.toNat=y.toNat:=by rw [← e1,← e2,h]
    have hn:num a=num b:=by rw [hx] at h;omega
    rw [Qav hl' hn,UInt8.toNat_inj.1 hx]
theorem of_inj {a b:List UInt8} (h:of a=of b):a=b:=by
  injection h with h1 h2;exact Qav h1 h2
theorem brec {α:Type} (b:Bool) (x y:α):(Bool.rec x y b:α)=if b=true then y else x:=by cases b <;> rfl
theorem beq_of (a b:List UInt8):beq (of a) (of b)=(a == b):=by
  rw [Bool.eq_iff_iff,beq_iff_eq]
  unfold beq
  rw [brec]
  constructor
  · intro h
    split at h
    · rename_i hl;exact of_inj (by rw [Str.mk.injEq];exact ⟨Nat.eq_of_beq_eq_true hl,Nat.eq_of_beq_eq_true h⟩)
    · cases h
  · rintro rfl;simp
theorem get_of (l:List UInt8) (i:Nat) (h:i < l.length):get (of l) i=l[i].toNat:=by
  have e:l=l.take i++l[i]::l.drop (i+1):=by simp
  have hn:num l=(num (l.take i) * 256+l[i].toNat) * 2 ^ (8 * (l.length - 1 - i))+num (l.drop (i+1)):=by
    conv=>lhs;rw [e]
    rw [Vi,num_cons,List.length_cons,pow8,List.length_drop,show l.length - (i+1)=l.length - 1 - i from by omega,Nat.add_mul]
    rw [Nat.mul_assoc,Nat.mul_comm 256];omega
  have hlt:=Ut (l.drop (i+1))
  rw [List.length_drop,show l.length - (i+1)=l.length - 1 - i from by omega] at hlt
  unfold get of
  simp only [Nat.sub_eq,Nat.mul_eq]
  show Nat.mod (Nat.shiftRight _ _) 256=_
  have e2:Nat.shiftRight (num l) (8 * (l.length - 1 - i))=num (l.take i) * 256+l[i].toNat:=by
    rw [show Nat.shiftRight (num l) (8 * (l.length - 1 - i))=num l >>> (8 * (l.length - 1 - i)) from rfl,Nat.shiftRight_eq_div_pow,hn,Nat.mul_comm,Nat.mul_add_div (Nat.pow_pos (by omega)),Nat.div_eq_of_lt hlt];omega
  rw [e2]
  show (_ % 256)=_
  have:=l[i].toNat_lt
  omega
theorem sub_of (l:List UInt8) (lo hi:Nat) (h1:lo≤hi) (h2:hi≤l.length):sub (of l) lo hi=of ((l.take hi).drop lo):=by
  have hlen:((l.take hi).drop lo).length=hi - lo:=by simp;omega
  have e:l=l.take lo++((l.take hi).drop lo++l.drop hi):=by
    have:l.take lo=(l.take hi).take lo:=by rw [List.take_take];congr 1;omega
    rw [this,← List.append_assoc,List.take_append_drop,List.take_append_drop]
  have hn:num l=(num (l.take lo) * 2 ^ (8 * (hi - lo))+num ((l.take hi).drop lo)) * 2 ^ (8 * (l.length - hi))+num (l.drop hi):=by
    conv=>lhs;rw [e]
    rw [Vi,Vi,List.length_append,hlen,List.length_drop,Nat.add_mul,Nat.mul_add,Nat.pow_add,Nat.mul_assoc];omega
  have hlt:=Ut (l.drop hi)
  rw [List.length_drop] at hlt
  have hlt2:=Ut ((l.take hi).drop lo)
  rw [hlen] at hlt2
  have e2:Nat.shiftRight (num l) (8 * (l.length - hi))=num (l.take lo) * 2 ^ (8 * (hi - lo))+num ((l.take hi).drop lo):=by
    rw [show Nat.shiftRight (num l) (8 * (l.length - hi))=num l >>> (8 * (l.length - hi)) from rfl,Nat.shiftRight_eq_div_pow]
    conv=>lhs;rw [hn]
    rw [Nat.mul_comm,Nat.mul_add_div (Nat.pow_pos (by omega)),Nat.div_eq_of_lt hlt];omega
  unfold sub
  simp only [seqN_eq]
  show Str.mk (Nat.sub hi lo) (Nat.mod (Nat.shiftRight (num l) (8 * (l.length - hi))) (Nat.shiftLeft 1 (8 * (hi - lo))))=_
  rw [e2]
  unfold of
  rw [hlen,Str.mk.injEq]
  refine ⟨rfl,?_⟩
  show (_ % ((1:Nat) <<< (8 * (hi - lo))))=_
  rw [Nat.one_shiftLeft,Nat.mul_comm,Nat.mul_add_mod,Nat.mod_eq_of_lt hlt2]
theorem set_of (l:List UInt8) (i:Nat) (b:UInt8) (h:i < l.length):set (of l) i b.toNat=of (l.set i b):=by
  unfold set
  have h1:(⟨1,b.toNat⟩:Str)=of [b]:=by simp [of,num]
  have h2:(of l).len=l.length:=rfl
  rw [h1,h2,sub_of l 0 i (by omega) (by omega),sub_of l (Nat.succ i) l.length (by omega) (Nat.le_refl _),cat_of,cat_of,List.set_eq_take_append_cons_drop,if_pos h]
  simp
theorem bytesLess_irrefl:∀ l:List UInt8,Op.bytesLess l l=false
  | []=>rfl
  | x::l=>by simp [Op.bytesLess,bytesLess_irrefl l]
theorem XD : ∀ {a b : List UInt8}, a.length = b.length → Op.bytesLess a b = decide (num a < num b)
  | [],[],_=>by simp [Op.bytesLess,num]
  | x :: a, y :: b, hl => by
    have hl':a.length=b.length:=by simpa using hl
    have h1:=Ut a;have h2:=Ut b
    rw [Op.bytesLess,XD hl',num_cons,num_cons,hl']
    rw [hl'] at h1
    rw [Bool.eq_iff_iff]
    simp only [Bool.or_eq_true,Bool.and_eq_true,decide_eq_true_eq,beq_iff_eq]
    rw [UInt8.lt_iff_toNat_lt]
    generalize hp:2 ^ (8 * b.length)=p at *
    constructor
    · rintro (h | ⟨rfl, h⟩)
      · have : (x.toNat + 1) * p ≤ y.toNat * p := Nat.mul_le_mul_right _ h
        rw [Nat.add_mul] at this;omega
      · omega
    · intro h
      rcases Nat.lt_trichotomy x.toNat y.toNat with hx | hx | hx
      · exact .inl hx
      · rw [hx] at h;exact .inr ⟨UInt8.toNat_inj.1 hx,by omega⟩
      · have : (y.toNat + 1) * p ≤ x.toNat * p := Nat.mul_le_mul_right _ hx
        rw [Nat.add_mul] at this;omega
theorem Gj:∀ (a c b:List UInt8),a.length=c.length→Op.bytesLess a (c++b)=(Op.bytesLess a c || (a == c && !b.isEmpty))
  | [],[],b,_=>by cases b <;> simp [Op.bytesLess]
  | x :: a, y :: c, b, hl => by
    have hl':a.length=c.length:=by simpa using hl
    simp only [List.cons_append,Op.bytesLess,Gj a c b hl',List.cons_beq_cons]
    cases decide (x < y) <;> cases x == y <;> simp
theorem KJ:∀ (a c b:List UInt8),a.length=c.length→Op.bytesLess (c++b) a=Op.bytesLess c a
  | [],[],b,_=>by cases b <;> simp [Op.bytesLess]
  | x :: a, y :: c, b, hl => by
    have hl':a.length=c.length:=by simpa using hl
    simp only [List.cons_append,Op.bytesLess,KJ a c b hl']
theorem Qbq (b:List UInt8) (n:Nat):num b=num (b.take n) * 2 ^ (8 * (b.length - n))+num (b.drop n):=by
  conv=>lhs;rw [← List.take_append_drop n b,Vi,List.length_drop]
theorem lt_of (a b : List UInt8) : lt (of a) (of b) = Op.bytesLess a b := by
  unfold lt
  simp only [brec]
  show (if Nat.ble a.length b.length=true then _ else _)=_
  by_cases hl:a.length≤b.length
  · rw [if_pos (by rw [Nat.ble_eq]; exact hl)]
    have hb:b=b.take a.length++b.drop a.length:=by simp
    have hlen:a.length=(b.take a.length).length:=by simp;omega
    have hn:=Qbq b a.length
    have hlt:=Ut (b.drop a.length);rw [List.length_drop] at hlt
    conv=>rhs;rw [hb]
    rw [Gj _ _ _ hlen,XD hlen]
    show (if Nat.blt (Nat.shiftLeft (num a) (8 * (b.length - a.length))) (num b)=true then true else if Nat.beq (Nat.shiftLeft (num a) (8 * (b.length - a.length))) (num b)=true then Nat.blt a.length b.length else false)=_
    rw [show Nat.shiftLeft (num a) (8 * (b.length - a.length))=num a * 2 ^ (8 * (b.length - a.length)) from Nat.shiftLeft_eq _ _,hn]
    generalize hp:2 ^ (8 * (b.length - a.length))=p at *
    generalize hc:b.take a.length=c at *
    generalize hd:b.drop a.length=d at *
    have hdl:d.isEmpty=decide (b.length≤a.length):=by subst hd;rw [Bool.eq_iff_iff];simp
    rw [hdl]
    rw [Bool.eq_iff_iff]
    have hblt:∀ x y,(Nat.blt x y=true) ↔ x < y:=fun x y=>by simp [Nat.blt,Nat.lt_iff_add_one_le]
    by_cases h1:num a < num c
    · have : (num a + 1) * p ≤ num c * p := Nat.mul_le_mul_right _ h1
      rw [Nat.add_mul] at this
      rw [if_pos ((hblt _ _).2 (by omega))];simp [h1]
    · by_cases h2 : num a = num c
      · have hac : a = c := Qav hlen h2
        subst hac
        by_cases h3:num d=0
        · rw [if_neg (by rw [hblt];omega),if_pos (by rw [h3];rw [Nat.beq_eq];try omega),hblt];simp
        · rw [if_pos ((hblt _ _).2 (by omega))]
          have:d≠[]:=fun h=>h3 (by rw [h];rfl)
          have:d.isEmpty=false:=by cases d;exact absurd rfl this;rfl
          rw [hdl] at this
          simp [this]
      · have : (num c + 1) * p ≤ num a * p := Nat.mul_le_mul_right _ (by omega)
        rw [Nat.add_mul] at this
        rw [if_neg (by rw [hblt];omega),if_neg (by intro h;have:=Nat.eq_of_beq_eq_true h;omega)]
        have hne:a≠c:=fun h=>h2 (by rw [h])
        simp [hne];omega
  · rw [if_neg (by rw [Nat.ble_eq]; exact hl)]
    have hl':b.length≤a.length:=by omega
    have ha:a=a.take b.length++a.drop b.length:=by simp
    have hlen:b.length=(a.take b.length).length:=by simp;omega
    have hn:=Qbq a b.length
    have hlt:=Ut (a.drop b.length);rw [List.length_drop] at hlt
    conv=>rhs;rw [ha]
    rw [KJ _ _ _ hlen,XD hlen.symm]
    show Nat.blt (num a) (Nat.shiftLeft (num b) (8 * (a.length - b.length)))=_
    rw [show Nat.shiftLeft (num b) (8 * (a.length - b.length))=num b * 2 ^ (8 * (a.length - b.length)) from Nat.shiftLeft_eq _ _,hn]
    generalize hp:2 ^ (8 * (a.length - b.length))=p at *
    generalize num (a.take b.length)=c at *
    generalize num (a.drop b.length)=d at *
    have hblt:∀ x y,(Nat.blt x y=true) ↔ x < y:=fun x y=>by simp [Nat.blt,Nat.lt_iff_add_one_le]
    rw [Bool.eq_iff_iff,hblt,decide_eq_true_eq]
    constructor
    · intro h
      rcases Nat.lt_or_ge c (num b) with h1 | h1
      · exact h1
      · have : num b * p ≤ c * p := Nat.mul_le_mul_right _ h1
        omega
    · intro h
      have:(c+1) * p≤num b * p:=Nat.mul_le_mul_right _ h
      rw [Nat.add_mul] at this;omega
end Str
end Go.Am
namespace Go.Am
open Go
inductive AV where
  | junk
  | bool (b:Bool)
  | int (k:IntKind) (n:Int)
  | str (s:Str)
  | nilp
  | ptr (id off:Nat)
  | nils
  | slice (id off len cap es:Nat) (exact:Bool)
  | nilm
  | map (id:Nat)
  | func (fn:Fn) (first captured:List AV)
  | nilf
  | iface (t:Nat) (v:AV)
  | nili
  | agg (cs:List AV)
  | tuple (vs:List AV)
  | yield (id:Nat)
  | glob (g off:Nat)
  deriving Inhabited
inductive Blk where
  | dead
  | cells (mv:Bool) (t:Nat) (cs:List AV)
  | bytes (t:Nat) (fz:Nat) (sg:Bool) (s:Str)
  | amap (es:List (AV × AV × Nat)) (clock:Nat)
  | smap (es:List (AV × AV))
  | miter (mid:Option Nat) (since:Nat) (seen:List Nat) (last:Nat)
  | loop (st:LoopState) (pend:Option Code) (ps:List Nat) (assign body:Code) (env:List AV)
  | defd (fresh:Bool)
  deriving Inhabited
def Blk.live:Blk→Bool
  | .dead=>false
  | _=>true
def Wi {α:Type} (d:α) (l:List α):Nat→α :=
  List.rec (motive:=fun _=>Nat→α) (fun _=>d) (fun a _ ih i=>Nat.rec (motive:=fun _=>α) a (fun j _=>ih j) i) l
def XB {α:Type} (l:List α):Nat→α→List α :=
  List.rec (motive:=fun _=>Nat→α→List α) (fun _ _=>[]) (fun a t ih i v=>Nat.rec (motive:=fun _=>List α) (v::t) (fun j _=>a::ih j v) i) l
theorem Z5 {α:Type} (d:α):∀ (l:List α) (i:Nat),Wi d l i=l.getD i d
  | [],_=>rfl
  | _::_,0=>rfl
  | _ :: t, i + 1 => by
    show Wi d t i=_
    rw [Z5 d t i];simp
theorem YY {α:Type}:∀ (l:List α) (i:Nat) (v:α),XB l i v=l.set i v
  | [],_,_=>rfl
  | _::_,0,_=>rfl
  | a :: t, i + 1, v => by
    show a::XB t i v=_
    rw [YY t i v];rfl
inductive Tr where
  | lf
  | nd (v:Blk) (l r:Tr)
def Tr.get:Tr→Nat→Blk:=@Tr.rec (fun _=>Nat→Blk) (fun _=>.dead)
  (fun v _ _ gl gr k=>Nat.rec (motive:=fun _=>Blk) v (fun k' _=>Nat.rec (motive:=fun _=>Blk) (gl (Nat.div k' 2)) (fun _ _=>gr (Nat.div k' 2)) (Nat.mod k' 2)) k)
def Tr.sing (b:Blk) (f:Nat):Nat→Tr:=Nat.rec (motive:=fun _=>Nat→Tr) (fun _=>.nd b .lf .lf)
  (fun _ ih k=>Nat.rec (motive:=fun _=>Tr) (.nd b .lf .lf) (fun k' _=>Nat.rec (motive:=fun _=>Tr) (.nd .dead (ih (Nat.div k' 2)) .lf) (fun _ _=>.nd .dead .lf (ih (Nat.div k' 2))) (Nat.mod k' 2)) k) f
def Tr.set:Tr→Nat→Blk→Tr:=@Tr.rec (fun _=>Nat→Blk→Tr) (fun k b=>Tr.sing b k k)
  (fun v l r sl sr k b=>Nat.rec (motive:=fun _=>Tr) (.nd b l r) (fun k' _=>Nat.rec (motive:=fun _=>Tr) (.nd v (sl (Nat.div k' 2) b) r) (fun _ _=>.nd v l (sr (Nat.div k' 2) b)) (Nat.mod k' 2)) k)
def Tr.setK:Tr→Nat→Blk→(Tr→Prop)→Prop:=@Tr.rec (fun _=>Nat→Blk→(Tr→Prop)→Prop) (fun k b c=>c (Tr.sing b k k))
  (fun v l r sl sr k b c=>Nat.rec (motive:=fun _=>Prop) (c (.nd b l r)) (fun k' _=>Nat.rec (motive:=fun _=>Prop) (sl (Nat.div k' 2) b fun l'=>c (.nd v l' r)) (fun _ _=>sr (Nat.div k' 2) b fun r'=>c (.nd v l r')) (Nat.mod k' 2)) k)
theorem Tr.get_lf (k:Nat):Tr.get .lf k=.dead:=rfl
theorem Tr.get_nd_zero (v:Blk) (l r:Tr):Tr.get (.nd v l r) 0=v:=rfl
theorem Tr.get_nd_succ (v:Blk) (l r:Tr) (k:Nat):Tr.get (.nd v l r) (k+1)=if k % 2=0 then Tr.get l (k / 2) else Tr.get r (k / 2):=by
  show (Nat.rec (motive:=fun _=>Blk) (Tr.get l (k / 2)) (fun _ _=>Tr.get r (k / 2)) (k % 2))=_
  cases h:k % 2 with
  | zero=>rfl
  | succ n=>rw [if_neg (by omega)]
theorem Tr.set_nd_succ (v:Blk) (l r:Tr) (k:Nat) (b:Blk):Tr.set (.nd v l r) (k+1) b=if k % 2=0 then .nd v (Tr.set l (k / 2) b) r else .nd v l (Tr.set r (k / 2) b):=by
  show (Nat.rec (motive:=fun _=>Tr) (.nd v (Tr.set l (k / 2) b) r) (fun _ _=>.nd v l (Tr.set r (k / 2) b)) (k % 2))=_
  cases h:k % 2 with
  | zero=>rfl
  | succ n=>rw [if_neg (by omega)]
theorem Tr.sing_succ (b:Blk) (f k:Nat):Tr.sing b (f+1) (k+1)=if k % 2=0 then .nd .dead (Tr.sing b f (k / 2)) .lf else .nd .dead .lf (Tr.sing b f (k / 2)):=by
  show (Nat.rec (motive:=fun _=>Tr) (.nd .dead (Tr.sing b f (k / 2)) .lf) (fun _ _=>.nd .dead .lf (Tr.sing b f (k / 2))) (k % 2))=_
  cases h:k % 2 with
  | zero=>rfl
  | succ n=>rw [if_neg (by omega)]
theorem Tr.get_sing (b : Blk) : ∀ (f k j : Nat), k ≤ f → Tr.get (Tr.sing b f k) j = if j = k then b else .dead
  | 0, k, j, h => by
    have:k=0:=by omega
    subst this
    show Tr.get (.nd b .lf .lf) j=_
    cases j with
    | zero=>rfl
    | succ j=>rw [Tr.get_nd_succ,Tr.get_lf];simp
  | f + 1, 0, j, _ => by
    show Tr.get (.nd b .lf .lf) j=_
    cases j with
    | zero=>rfl
    | succ j=>rw [Tr.get_nd_succ,Tr.get_lf];simp
  | f + 1, k + 1, j, h => by
    rw [Tr.sing_succ]
    have ih:=fun j=>Tr.get_sing b f (k / 2) j (by omega)
    split
    · cases j with
      | zero=>rw [Tr.get_nd_zero];simp
      | succ j =>
        rw [Tr.get_nd_succ,ih,Tr.get_lf]
        by_cases e:j=k
        · subst e;rw [if_pos (by assumption)];simp
        · rw [if_neg (by omega : ¬ (j + 1 = k + 1))]; split
          · rw [if_neg (by omega)]
          · rfl
    · cases j with
      | zero=>rw [Tr.get_nd_zero];simp
      | succ j =>
        rw [Tr.get_nd_succ,ih,Tr.get_lf]
        by_cases e:j=k
        · subst e;rw [if_neg (by assumption)];simp
        · rw [if_neg (by omega : ¬ (j + 1 = k + 1))]; split
          · rfl
          · rw [if_neg (by omega)]
theorem Tr.get_set : ∀ (t : Tr) (k j : Nat) (b : Blk), Tr.get (Tr.set t k b) j = if j = k then b else Tr.get t j
  | .lf, k, j, b => by
    show Tr.get (Tr.sing b k k) j=_
    rw [Tr.get_sing b k k j (Nat.le_refl _),Tr.get_lf]
  | .nd v l r, 0, j, b => by
    show Tr.get (.nd b l r) j=_
    cases j with
    | zero=>rfl
    | succ j=>rw [Tr.get_nd_succ,Tr.get_nd_succ];simp
  | .nd v l r, k + 1, j, b => by
    rw [Tr.set_nd_succ]
    have il:=fun j=>Tr.get_set l (k / 2) j b
    have ir:=fun j=>Tr.get_set r (k / 2) j b
    split
    · cases j with
      | zero=>rw [Tr.get_nd_zero,Tr.get_nd_zero];simp
      | succ j =>
        rw [Tr.get_nd_succ,Tr.get_nd_succ,il]
        by_cases e:j=k
        · subst e;rw [if_pos (by assumption)];simp
        · rw [if_neg (by omega : ¬ (j + 1 = k + 1))]; split
          · rw [if_neg (by omega)]
          · rfl
    · cases j with
      | zero=>rw [Tr.get_nd_zero,Tr.get_nd_zero];simp
      | succ j =>
        rw [Tr.get_nd_succ,Tr.get_nd_succ,ir]
        by_cases e:j=k
        · subst e;rw [if_neg (by assumption)];simp
        · rw [if_neg (by omega : ¬ (j + 1 = k + 1))]; split
          · rfl
          · rw [if_neg (by omega)]
theorem Tr.setK_eq:∀ (t:Tr) (k:Nat) (b:Blk) (c:Tr→Prop),Tr.setK t k b c=c (Tr.set t k b)
  | .lf,k,b,c=>rfl
  | .nd v l r,0,b,c=>rfl
  | .nd v l r, k + 1, b, c => by
    show (Nat.rec (motive:=fun _=>Prop) (Tr.setK l (k / 2) b fun l'=>c (.nd v l' r)) (fun _ _=>Tr.setK r (k / 2) b fun r'=>c (.nd v l r')) (k % 2))=_
    rw [Tr.set_nd_succ]
    cases h:k % 2 with
    | zero=>rw [if_pos rfl];exact Tr.setK_eq l _ _ _
    | succ n=>rw [if_neg (by omega)];exact Tr.setK_eq r _ _ _
structure H where
  mem:Tr
  next:Nat
  base:Nat
structure H.Wf (h:H):Prop where
  low:h.base≤h.next
def H.get (h:H) (id:Nat):Blk:=Bool.rec .dead (Tr.get h.mem id) (Nat.blt id h.next)
def H.push (h:H) (b:Blk):Option (Nat × H):=some (h.next,⟨Tr.set h.mem h.next b,Nat.succ h.next,h.base⟩)
def H.put (h:H) (id:Nat) (b:Blk):Option H :=
  H.rec (motive:=fun _=>Option H) (fun m n bs=>Bool.rec none (Bool.rec none (some ⟨Tr.set m id b,n,bs⟩) (Nat.ble bs id)) (Nat.blt id n)) h
theorem QH (a b:Nat):Nat.blt a b=true ↔ a < b:=by simp [Nat.blt,Nat.lt_iff_add_one_le]
theorem Qk (a b:Nat):Nat.ble a b=true ↔ a≤b:=by rw [Nat.ble_eq]
theorem H.get_eq (h:H) (id:Nat):h.get id=if id < h.next then Tr.get h.mem id else .dead:=by
  unfold H.get;rw [Str.brec];simp only [QH]
theorem H.put_eq (h:H) (id:Nat) (b:Blk):h.put id b=if id < h.next∧h.base≤id then some ⟨Tr.set h.mem id b,h.next,h.base⟩ else none:=by
  cases h;unfold H.put;simp only [Str.brec,QH,Qk]
  split <;> split <;> simp_all
theorem H.push_some {h h':H} {b:Blk} {n:Nat} (e:h.push b=some (n,h')) (wf:h.Wf) :
    n=h.next∧h'.next=h.next+1∧h'.base=h.base∧h'.Wf∧(∀ id,h'.get id=if id=h.next then b else h.get id):=by
  unfold H.push at e
  injection e with e;injection e with e1 e2
  subst e1 e2
  refine ⟨rfl,rfl,rfl,⟨Nat.le_succ_of_le wf.low⟩,fun id=>?_⟩
  rw [H.get_eq,H.get_eq]
  show (if id < h.next+1 then Tr.get (Tr.set h.mem h.next b) id else .dead)=_
  by_cases h1:id=h.next
  · subst h1;rw [if_pos (by omega),if_pos rfl,Tr.get_set,if_pos rfl]
  · rw [if_neg h1]
    by_cases h2:id < h.next
    · rw [if_pos (by omega),if_pos h2,Tr.get_set,if_neg h1]
    · rw [if_neg (by omega),if_neg h2]
theorem H.put_some {h h':H} {b:Blk} {i:Nat} (e:h.put i b=some h') (wf:h.Wf) :
    i < h.next∧h.base≤i∧h'.next=h.next∧h'.base=h.base∧h'.Wf∧(∀ id,h'.get id=if id=i then b else h.get id):=by
  rw [H.put_eq] at e
  split at e
  · rename_i hlt
    injection e with e
    subst e
    refine ⟨hlt.1,hlt.2,rfl,rfl,⟨wf.low⟩,fun id=>?_⟩
    rw [H.get_eq,H.get_eq]
    show (if id < h.next then Tr.get (Tr.set h.mem i b) id else .dead)=_
    by_cases h2:id < h.next
    · rw [if_pos h2,if_pos h2,Tr.get_set]
    · rw [if_neg h2,if_neg h2,if_neg (by omega)]
  · cases e
theorem H.get_of_le {h:H} {id:Nat} (hi:h.next≤id):h.get id=.dead:=by rw [H.get_eq,if_neg (by omega)]
theorem H.lt_of_live {h:H} {id:Nat} (hl:(h.get id).live=true):id < h.next:=by
  rcases Nat.lt_or_ge id h.next with h1 | h1
  · exact h1
  · rw [H.get_of_le h1] at hl;cases hl
structure Mu where
  loc:Nat→Option (Nat × Nat)
  sz:Nat→Nat
instance:CoeFun Mu (fun _=>Nat→Option (Nat × Nat)):=⟨Mu.loc⟩
mutual
def AV.rel (μ:Mu):AV→Value→Prop
  | .junk,_=>True
  | .bool b,v=>v=.bool b
  | .int k n,v=>v=.int k n
  | .str s,v=>∃ b:ByteArray,v=.string b∧s=Str.of b.data.toList
  | .nilp,v=>v=.pointer none
  | .ptr id off,v=>∃ b d,μ id=some (b,d)∧v=.pointer (some ⟨b,d+off,none⟩)
  | .nils,v=>v=.slice none 0 0
  | .slice id off len cap es ex,v=>∃ b d c o a,μ id=some (b,d)∧v=.slice (some a) len c∧(a=⟨b,o,none⟩∨c=0)∧(0 < cap→o=d+off)∧cap≤c∧(ex=true→c=cap)∧len≤cap∧d≤o∧o+c * es≤μ.sz id
  | .nilm,v=>v=.map none
  | .map id,v=>∃ b,μ id=some (b,0)∧v=.map (some b)
  | .func fn f c,v=>∃ f' c',v=.func fn f' c'∧AV.relL μ f f'.toList∧AV.relL μ c c'.toList
  | .nilf,v=>v=.nilFunc
  | .iface t x,v=>∃ y,v=.iface t y∧AV.rel μ x y
  | .nili,v=>v=.nilIface
  | .agg cs,v=>∃ vs,v=.agg vs∧AV.relL μ cs vs.toList
  | .tuple cs,v=>∃ vs,v=.tuple vs∧AV.relL μ cs vs.toList
  | .yield id,v=>∃ b,μ id=some (b,0)∧v=.func (.yield b) #[] #[]
  | .glob g off,v=>v=.pointer (some ⟨g,off,none⟩)
def AV.relL (μ:Mu):List AV→List Value→Prop
  | [],vs=>vs=[]
  | a::as,vs=>∃ v vs',vs=v::vs'∧AV.rel μ a v∧AV.relL μ as vs'
end
end Go.Am
namespace Go.Am
open Go
def Le (μ μ':Mu):Prop:=∀ id p,μ id=some p→μ' id=some p∧μ'.sz id=μ.sz id
theorem Le.refl (μ:Mu):Le μ μ:=fun _ _ h=>⟨h,rfl⟩
mutual
theorem AV.rel_mono {μ μ':Mu} (hm:Le μ μ'):∀ (a:AV) (v:Value),a.rel μ v→a.rel μ' v
  | .junk,_,_=>by simp [AV.rel]
  | .bool _,_,h=>by simpa [AV.rel] using h
  | .int _ _,_,h=>by simpa [AV.rel] using h
  | .str _,_,h=>by simpa [AV.rel] using h
  | .nilp,_,h=>by simpa [AV.rel] using h
  | .ptr id off, v, h => by
    simp only [AV.rel] at h ⊢
    obtain ⟨b,d,h1,h2⟩:=h;exact ⟨b,d,(hm _ _ h1).1,h2⟩
  | .nils,_,h=>by simpa [AV.rel] using h
  | .slice id off len cap es ex, v, h => by
    simp only [AV.rel] at h ⊢
    obtain ⟨b,d,c,o,a,h1,h2⟩:=h;exact ⟨b,d,c,o,a,(hm _ _ h1).1,by rw [(hm _ _ h1).2];exact h2⟩
  | .nilm,_,h=>by simpa [AV.rel] using h
  | .map id, v, h => by
    simp only [AV.rel] at h ⊢
    obtain ⟨b,h1,h2⟩:=h;exact ⟨b,(hm _ _ h1).1,h2⟩
  | .func fn f c, v, h => by
    simp only [AV.rel] at h ⊢
    obtain ⟨f',c',h1,h2,h3⟩:=h;exact ⟨f',c',h1,AV.relL_mono hm f _ h2,AV.relL_mono hm c _ h3⟩
  | .nilf,_,h=>by simpa [AV.rel] using h
  | .iface t x, v, h => by
    simp only [AV.rel] at h ⊢
    obtain ⟨y,h1,h2⟩:=h;exact ⟨y,h1,AV.rel_mono hm x _ h2⟩
  | .nili,_,h=>by simpa [AV.rel] using h
  | .agg cs, v, h => by
    simp only [AV.rel] at h ⊢
    obtain ⟨vs,h1,h2⟩:=h;exact ⟨vs,h1,AV.relL_mono hm cs _ h2⟩
  | .tuple cs, v, h => by
    simp only [AV.rel] at h ⊢
    obtain ⟨vs,h1,h2⟩:=h;exact ⟨vs,h1,AV.relL_mono hm cs _ h2⟩
  | .yield id, v, h => by
    simp only [AV.rel] at h ⊢
    obtain ⟨b,h1,h2⟩:=h;exact ⟨b,(hm _ _ h1).1,h2⟩
  | .glob _ _,_,h=>by simpa [AV.rel] using h
theorem AV.relL_mono {μ μ':Mu} (hm:Le μ μ'):∀ (l:List AV) (vs:List Value),AV.relL μ l vs→AV.relL μ' l vs
  | [],_,h=>by simpa [AV.relL] using h
  | a :: as, vs, h => by
    simp only [AV.relL] at h ⊢
    obtain ⟨v,vs',h1,h2,h3⟩:=h;exact ⟨v,vs',h1,AV.rel_mono hm a _ h2,AV.relL_mono hm as _ h3⟩
end
theorem AV.relL_nil {μ:Mu} {vs:List Value}:AV.relL μ [] vs ↔ vs=[]:=by simp [AV.relL]
theorem AV.relL_cons {μ:Mu} {a:AV} {as:List AV} {vs:List Value}:AV.relL μ (a::as) vs ↔ ∃ v vs',vs=v::vs'∧a.rel μ v∧AV.relL μ as vs':=by simp [AV.relL]
theorem AV.relL_cons_cons {μ:Mu} {a:AV} {as:List AV} {v:Value} {vs:List Value}:AV.relL μ (a::as) (v::vs) ↔ a.rel μ v∧AV.relL μ as vs:=by
  rw [AV.relL_cons];constructor
  · rintro ⟨v',vs',h,h1,h2⟩;injection h with e1 e2;subst e1 e2;exact ⟨h1,h2⟩
  · rintro ⟨h1,h2⟩;exact ⟨v,vs,rfl,h1,h2⟩
theorem AV.relL_length {μ:Mu}:∀ {l:List AV} {vs:List Value},AV.relL μ l vs→vs.length=l.length
  | [],vs,h=>by rw [AV.relL_nil] at h;simp [h]
  | a :: as, vs, h => by
    obtain ⟨v,vs',rfl,_,h2⟩:=AV.relL_cons.1 h
    simp [AV.relL_length h2]
theorem AV.relL_get {μ:Mu}:∀ {l:List AV} {vs:List Value},AV.relL μ l vs→∀ (i:Nat) (a:AV),l[i]?=some a→∃ v,vs[i]?=some v∧a.rel μ v
  | [],vs,h,i,a,ha=>by simp at ha
  | b :: as, vs, h, i, a, ha => by
    obtain ⟨v,vs',rfl,h1,h2⟩:=AV.relL_cons.1 h
    cases i with
    | zero=>simp at ha;subst ha;exact ⟨v,rfl,h1⟩
    | succ i=>simp at ha;obtain ⟨x,hx,hr⟩:=AV.relL_get h2 i a ha;exact ⟨x,by simpa using hx,hr⟩
theorem AV.relL_of_get {μ:Mu}:∀ {l:List AV} {vs:List Value},vs.length=l.length→(∀ (i:Nat) (a:AV),l[i]?=some a→∃ v,vs[i]?=some v∧a.rel μ v)→AV.relL μ l vs
  | [],vs,hl,h=>by rw [AV.relL_nil];simpa using hl
  | b::as,[],hl,h=>by simp at hl
  | b :: as, v :: vs, hl, h => by
    rw [AV.relL_cons_cons]
    refine ⟨?_,AV.relL_of_get (by simpa using hl) fun i a ha=>?_⟩
    · obtain ⟨x,hx,hr⟩:=h 0 b rfl;simp at hx;subst hx;exact hr
    · obtain ⟨x,hx,hr⟩:=h (i+1) a (by simpa using ha);exact ⟨x,by simpa using hx,hr⟩
theorem AV.relL_append {μ:Mu}:∀ {l l':List AV} {vs vs':List Value},AV.relL μ l vs→AV.relL μ l' vs'→AV.relL μ (l++l') (vs++vs')
  | [],l',vs,vs',h,h'=>by rw [AV.relL_nil] at h;subst h;exact h'
  | a :: as, l', vs, vs', h, h' => by
    obtain ⟨v,t,rfl,h1,h2⟩:=AV.relL_cons.1 h
    rw [List.cons_append,List.cons_append,AV.relL_cons_cons]
    exact ⟨h1,AV.relL_append h2 h'⟩
def Qfp (d n:Nat) (fr:Nat × Nat):Prop:=∀ o,d≤o→o < n→¬ (fr.1≤o∧o < fr.2)
structure EnvRel (μ:Mu) (env:List AV) (tmps:Array Value):Prop where
  get:∀ t,(env.getD t .junk).rel μ (tmps.getD t undef)
  len:env.length≤tmps.size
def EsRel (μ:Mu):List (AV × AV × Nat)→List MapEntry→Prop
  | [],l=>l=[]
  | (k,v,n)::es,l=>∃ e l',l=e::l'∧k.rel μ e.key∧v.rel μ e.val∧e.born=n∧EsRel μ es l'
theorem EsRel.mono {μ μ':Mu} (hm:Le μ μ'):∀ {es:List (AV × AV × Nat)} {l:List MapEntry},EsRel μ es l→EsRel μ' es l
  | [],_,h=>h
  | (k, v, n) :: es, l, h => by
    obtain ⟨e,l',h1,h2,h3,h4,h5⟩:=h
    exact ⟨e,l',h1,AV.rel_mono hm _ _ h2,AV.rel_mono hm _ _ h3,h4,h5.mono hm⟩
theorem EnvRel.mono {μ μ':Mu} {env:List AV} {t:Array Value} (h:EnvRel μ env t) (hm:Le μ μ'):EnvRel μ' env t:=⟨fun i=>AV.rel_mono hm _ _ (h.get i),h.len⟩
def midRel (μ:Mu):Option Nat→Option Nat→Prop
  | none,b=>b=none
  | some id,b=>∃ c,μ id=some (c,0)∧b=some c
theorem midRel.mono {μ μ':Mu} (hm:Le μ μ') {m b:Option Nat} (h:midRel μ m b):midRel μ' m b:=by
  cases m with
  | none=>exact h
  | some id=>obtain ⟨c,h1,h2⟩:=h;exact ⟨c,(hm _ _ h1).1,h2⟩
structure YO (es:List (AV × AV)) (es':List (AV × AV × Nat)) (clock:Nat):Prop where
  perm:(es'.map fun e=>(e.1,e.2.1)).Perm es
  keys:(es.map (·.1)).Nodup
  stamps:(es'.map (·.2.2)).Nodup
  low:∀ e∈es',e.2.2 < clock
def BlkRelU (u:Bool) (μ:Mu) (w:World) (b d:Nat):Blk→Prop
  | .dead=>True
  | .cells mv t cs=>∃ ccs fr,w.heap[b]?=some (.cells ccs t fr)∧(∀ (i:Nat) (a:AV),cs[i]?=some a→∃ v,ccs[d+i]?=some v∧a.rel μ v)∧(u=true→Qfp d ccs.size fr)∧(mv=false→d=0)
  | .bytes t fz sg s=>∃ ccs fr l,w.heap[b]?=some (.cells ccs t fr)∧s=Str.of l∧(∀ i x,l[i]?=some x→ccs[d+i]?=some (.int .u8 x.toNat))∧(u=true→Qfp (d+fz) ccs.size fr) ∧
      (sg=false→fr.1=fr.2∨(0 < fz∧fr.2≤d+fz))
  | .amap es clock=>d=0∧∃ ces,w.heap[b]?=some (.map ces clock)∧EsRel μ es ces.toList
  | .smap es=>d=0∧∃ es' clock ces,w.heap[b]?=some (.map ces clock)∧EsRel μ es' ces.toList∧YO es es' clock
  | .miter mid since seen last=>d=0∧∃ cm,w.heap[b]?=some (.mapIter cm since seen.toArray last)∧midRel μ mid cm
  | .loop st pend ps assign body env=>d=0∧∃ r,w.heap[b]?=some (.loop r)∧r.state=st∧r.pending=pend∧r.params=ps.toArray∧r.assign=assign∧r.body=body∧EnvRel μ env r.tmps
  | .defd fresh=>d=0∧w.heap[b]?=some (.deferred (if fresh then some [] else none))
def BlkRel (μ:Mu) (w:World) (b d:Nat) (k:Blk):Prop:=BlkRelU true μ w b d k
theorem BlkRelU.mono {μ μ':Mu} (hm:Le μ μ') {w w':World} {b d:Nat} {k:Blk} {u:Bool} (h:BlkRelU u μ w b d k) (hw:k.live=true→w'.heap[b]?=w.heap[b]?):BlkRelU u μ' w' b d k:=by
  cases k with
  | dead=>trivial
  | cells mv t cs =>
    obtain ⟨ccs,fr,h1,h2,h3⟩:=h
    exact ⟨ccs,fr,by rw [hw rfl];exact h1,fun i a ha=>let ⟨v,hv,hr⟩:=h2 i a ha;⟨v,hv,AV.rel_mono hm a v hr⟩,h3⟩
  | bytes t fz sg s =>
    obtain ⟨ccs,fr,l,h1,h2⟩:=h
    exact ⟨ccs,fr,l,by rw [hw rfl];exact h1,h2⟩
  | amap es clock =>
    obtain ⟨h0,ces,h1,h2⟩:=h
    exact ⟨h0,ces,by rw [hw rfl];exact h1,h2.mono hm⟩
  | smap es =>
    obtain ⟨h0,es',clock,ces,h1,h2,h3⟩:=h
    exact ⟨h0,es',clock,ces,by rw [hw rfl];exact h1,h2.mono hm,h3⟩
  | miter mid since seen last =>
    obtain ⟨h0,cm,h1,h2⟩:=h
    exact ⟨h0,cm,by rw [hw rfl];exact h1,h2.mono hm⟩
  | loop st pend ps assign body env =>
    obtain ⟨h0,r,h1,h2,h3,h4,h5,h6,h7⟩:=h
    exact ⟨h0,r,by rw [hw rfl];exact h1,h2,h3,h4,h5,h6,h7.mono hm⟩
  | defd fresh=>exact ⟨h.1,by rw [hw rfl];exact h.2⟩
theorem BlkRel.any {μ:Mu} {w:World} {b d:Nat} {k:Blk} {u:Bool} (h:BlkRel μ w b d k):BlkRelU u μ w b d k:=by
  cases u with
  | true=>exact h
  | false => cases k with
    | cells mv t cs =>
      obtain ⟨ccs,fr,h1,h2,_,h4⟩:=h
      exact ⟨ccs,fr,h1,h2,fun e=>(by cases e),h4⟩
    | bytes t fz sg s =>
      obtain ⟨ccs,fr,l,h1,h2,h3,_,h5⟩:=h
      exact ⟨ccs,fr,l,h1,h2,h3,fun e=>(by cases e),h5⟩
    | _=>exact h
def Glb (μ:Mu) (h:H):Prop:=∀ g t cs,g < h.base→h.get g=.cells false t cs→μ g=some (g,0)
theorem Glb.step {μ μ':Mu} {h h':H} (hg:Glb μ h) (hb:h'.base=h.base) (hl:∀ id,id < h.base→h'.get id=h.get id) (hm:∀ id,id < h.base→μ' id=μ id):Glb μ' h':=fun g t cs h1 h2=>by
  rw [hb] at h1;rw [hl g h1] at h2;rw [hm g h1];exact hg g t cs h1 h2
structure Rel (μ:Mu) (h:H) (w:World):Prop where
  wf:h.Wf
  dom:∀ id b d,μ id=some (b,d)→id < h.next∧b < w.heap.size
  inj:∀ i j b d e,μ i=some (b,d)→μ j=some (b,e)→(h.get i).live=true→(h.get j).live=true→h.base≤j→i=j
  blk:∀ id b d,μ id=some (b,d)→BlkRelU (Nat.ble h.base id) μ w b d (h.get id)
  cnt:∀ id b d ccs t fr,μ id=some (b,d)→w.heap[b]?=some (.cells ccs t fr)→ccs.size=μ.sz id
  glb:Glb μ h
structure Frame (μ:Mu) (h:H) (w w':World):Prop where
  os:w'.os=w.os
  tape:w'.tape=w.tape
  output:w'.output=w.output
  size:w.heap.size≤w'.heap.size
  block:∀ b,b < w.heap.size→(∀ id d,h.base≤id→μ id=some (b,d)→(h.get id).live=false)→w'.heap[b]?=w.heap[b]?
structure Grows (μ:Mu) (h h':H):Prop where
  next:h.next≤h'.next
  base:h'.base=h.base
  keep:∀ id,id < h.next→μ id=none→h'.get id=h.get id
  low:∀ id,id < h.base→h'.get id=h.get id
  dead:∀ id,id < h.next→(h'.get id).live=true→(h.get id).live=true
def Ext (μ μ':Mu) (n:Nat):Prop:=∀ id,id < n→μ' id=μ id∧μ'.sz id=μ.sz id
structure Post (μ:Mu) (h:H) (w:World) (μ':Mu) (h':H) (w':World):Prop where
  ext:Ext μ μ' h.next
  rel:Rel μ' h' w'
  frame:Frame μ h w w'
  grows:Grows μ h h'
  fresh:∀ id b d,h.next≤id→μ' id=some (b,d)→b < w.heap.size→(h'.get id).live=true→∃ id0 d0,h.base≤id0∧μ id0=some (b,d0)∧(h.get id0).live=true
theorem Rel.ext_le {μ μ':Mu} {h:H} {w:World} (hr:Rel μ h w) (he:Ext μ μ' h.next):Le μ μ':=by
  intro id p hp
  have:=he id (hr.dom id p.1 p.2 hp).1
  exact ⟨by rw [this.1];exact hp,this.2⟩
theorem Frame.refl (μ:Mu) (h:H) (w:World):Frame μ h w w:=⟨rfl,rfl,rfl,Nat.le_refl _,fun _ _ _=>rfl⟩
theorem Grows.refl (μ:Mu) (h:H):Grows μ h h:=⟨Nat.le_refl _,rfl,fun _ _ _=>rfl,fun _ _=>rfl,fun _ _ h=>h⟩
theorem Post.refl {μ:Mu} {h:H} {w:World} (hr:Rel μ h w):Post μ h w μ h w:=⟨fun _ _=>⟨rfl,rfl⟩,hr,Frame.refl _ _ _,Grows.refl _ _,fun id b d hi hm=>absurd (hr.dom id b d hm).1 (by omega)⟩
theorem Post.trans {μ μ' μ'' : Mu} {h h' h'' : H} {w w' w'' : World} (p : Post μ h w μ' h' w') (q : Post μ' h' w' μ'' h'' w'') : Post μ h w μ'' h'' w'' := by
  refine ⟨fun id hi=>?_,q.rel,?_,?_,?_⟩
  · have h1 := q.ext id (Nat.lt_of_lt_of_le hi p.grows.next); have h2 := p.ext id hi
    exact ⟨h1.1.trans h2.1,h1.2.trans h2.2⟩
  · refine ⟨q.frame.os.trans p.frame.os, q.frame.tape.trans p.frame.tape, q.frame.output.trans p.frame.output, Nat.le_trans p.frame.size q.frame.size, fun b hb hn => ?_⟩
    rw [q.frame.block b (Nat.lt_of_lt_of_le hb p.frame.size) ?_,p.frame.block b hb hn]
    intro id d hbase hm
    rw [p.grows.base] at hbase
    cases hl:(h'.get id).live with
    | false=>rfl
    | true =>
      rcases Nat.lt_or_ge id h.next with hi | hi
      · rw [(p.ext id hi).1] at hm
        have:=hn id d hbase hm
        rw [p.grows.dead id hi hl] at this;cases this
      · obtain ⟨id0, d0, h1, h2, h3⟩ := p.fresh id b d hi hm hb hl
        rw [hn id0 d0 h1 h2] at h3;cases h3
  · refine ⟨Nat.le_trans p.grows.next q.grows.next, q.grows.base.trans p.grows.base, fun id hi hm => ?_, fun id hi => ?_, fun id hi hl => ?_⟩
    · rw [q.grows.keep id (Nat.lt_of_lt_of_le hi p.grows.next) (by rw [(p.ext id hi).1];exact hm),p.grows.keep id hi hm]
    · rw [q.grows.low id (by rw [p.grows.base];exact hi),p.grows.low id hi]
    · exact p.grows.dead id hi (q.grows.dead id (Nat.lt_of_lt_of_le hi p.grows.next) hl)
  · intro id b d hi hm hb hl
    have key:∀ id1 d1,h'.base≤id1→μ' id1=some (b,d1)→(h'.get id1).live=true→∃ id0 d0,h.base≤id0∧μ id0=some (b,d0)∧(h.get id0).live=true:=by
      intro id1 d1 hb1 hm1 hl1
      rcases Nat.lt_or_ge id1 h.next with hi1 | hi1
      · rw [(p.ext id1 hi1).1] at hm1
        exact ⟨id1,d1,by rw [← p.grows.base];exact hb1,hm1,p.grows.dead id1 hi1 hl1⟩
      · exact p.fresh id1 b d1 hi1 hm1 hb hl1
    rcases Nat.lt_or_ge id h'.next with hi' | hi'
    · rw [(q.ext id hi').1] at hm
      exact p.fresh id b d hi hm hb (q.grows.dead id hi' hl)
    · obtain ⟨id1, d1, h1, h2, h3⟩ := q.fresh id b d hi' hm (Nat.lt_of_lt_of_le hb p.frame.size) hl
      exact key id1 d1 h1 h2 h3
mutual
def AV.under (n:Nat):AV→Prop
  | .ptr id _=>id < n
  | .slice id _ _ _ _ _=>id < n
  | .map id=>id < n
  | .yield id=>id < n
  | .func _ f c=>AV.underL n f∧AV.underL n c
  | .iface _ v=>AV.under n v
  | .agg cs=>AV.underL n cs
  | .tuple cs=>AV.underL n cs
  | _=>True
def AV.underL (n:Nat):List AV→Prop
  | []=>True
  | a::as=>AV.under n a∧AV.underL n as
end
mutual
theorem AV.rel_down {μ μ':Mu} {n:Nat} (hm:Ext μ μ' n):∀ (a:AV) (v:Value),a.under n→a.rel μ' v→a.rel μ v
  | .junk,_,_,_=>by simp [AV.rel]
  | .bool _,_,_,h=>by simpa [AV.rel] using h
  | .int _ _,_,_,h=>by simpa [AV.rel] using h
  | .str _,_,_,h=>by simpa [AV.rel] using h
  | .nilp,_,_,h=>by simpa [AV.rel] using h
  | .ptr id off, v, hb, h => by
    simp only [AV.rel,AV.under] at h hb ⊢
    rw [(hm id hb).1] at h;exact h
  | .nils,_,_,h=>by simpa [AV.rel] using h
  | .slice id off len cap es ex, v, hb, h => by
    simp only [AV.rel,AV.under] at h hb ⊢
    rw [(hm id hb).1,(hm id hb).2] at h;exact h
  | .nilm,_,_,h=>by simpa [AV.rel] using h
  | .map id, v, hb, h => by
    simp only [AV.rel,AV.under] at h hb ⊢
    rw [(hm id hb).1] at h;exact h
  | .func fn f c, v, hb, h => by
    simp only [AV.rel,AV.under] at h hb ⊢
    obtain ⟨f',c',h1,h2,h3⟩:=h;exact ⟨f',c',h1,AV.relL_down hm f _ hb.1 h2,AV.relL_down hm c _ hb.2 h3⟩
  | .nilf,_,_,h=>by simpa [AV.rel] using h
  | .iface t x, v, hb, h => by
    simp only [AV.rel,AV.under] at h hb ⊢
    obtain ⟨y,h1,h2⟩:=h;exact ⟨y,h1,AV.rel_down hm x _ hb h2⟩
  | .nili,_,_,h=>by simpa [AV.rel] using h
  | .agg cs, v, hb, h => by
    simp only [AV.rel,AV.under] at h hb ⊢
    obtain ⟨vs,h1,h2⟩:=h;exact ⟨vs,h1,AV.relL_down hm cs _ hb h2⟩
  | .tuple cs, v, hb, h => by
    simp only [AV.rel,AV.under] at h hb ⊢
    obtain ⟨vs,h1,h2⟩:=h;exact ⟨vs,h1,AV.relL_down hm cs _ hb h2⟩
  | .yield id, v, hb, h => by
    simp only [AV.rel,AV.under] at h hb ⊢
    rw [(hm id hb).1] at h;exact h
  | .glob _ _,_,_,h=>by simpa [AV.rel] using h
theorem AV.relL_down {μ μ':Mu} {n:Nat} (hm:Ext μ μ' n):∀ (l:List AV) (vs:List Value),AV.underL n l→AV.relL μ' l vs→AV.relL μ l vs
  | [],_,_,h=>by simpa [AV.relL] using h
  | a :: as, vs, hb, h => by
    simp only [AV.relL,AV.underL] at h hb ⊢
    obtain ⟨v,vs',h1,h2,h3⟩:=h;exact ⟨v,vs',h1,AV.rel_down hm a _ hb.1 h2,AV.relL_down hm as _ hb.2 h3⟩
end
end Go.Am
namespace Go.Am
open Go
def upd (μ:Mu) (n:Nat) (p:Nat × Nat) (s:Nat):Mu:=⟨fun id=>if id=n then some p else μ id,fun id=>if id=n then s else μ.sz id⟩
theorem Ze (μ:Mu) (n:Nat) (p:Nat × Nat) (s:Nat):upd μ n p s n=some p:=if_pos rfl
theorem ZF (μ:Mu) {n id:Nat} (p:Nat × Nat) (s:Nat) (h:id≠n):upd μ n p s id=μ id:=if_neg h
theorem UW (μ:Mu) (n:Nat) (p:Nat × Nat) (s:Nat):(upd μ n p s).sz n=s:=if_pos rfl
theorem Wq (μ:Mu) {n id:Nat} (p:Nat × Nat) (s:Nat) (h:id≠n):(upd μ n p s).sz id=μ.sz id:=if_neg h
theorem Un {μ:Mu} {n:Nat} (p:Nat × Nat) (s:Nat) (h:∀ q,μ n=some q→False):Le μ (upd μ n p s):=fun id q hq=>by
  have:id≠n:=fun e=>by subst e;exact h q hq
  exact ⟨by rw [ZF _ _ _ this];exact hq,Wq _ _ _ this⟩
theorem Rel.congr {μ:Mu} {h:H} {w w':World} (hr:Rel μ h w) (hh:w'.heap=w.heap):Rel μ h w' :=
  ⟨hr.wf,fun id b d hm=>by rw [hh];exact hr.dom id b d hm,hr.inj,fun id b d hm=>(hr.blk id b d hm).mono (Le.refl _) (fun _=>by rw [hh]),fun id b d ccs t fr hm hw=>hr.cnt id b d ccs t fr hm (by rw [← hh];exact hw),hr.glb⟩
theorem Post.drew {μ:Mu} {h:H} {w:World} (hr:Rel μ h w) (n:Nat):Post μ h w μ h { w with drawn:=n } :=
  ⟨fun _ _=>⟨rfl,rfl⟩,hr.congr rfl,⟨rfl,rfl,rfl,Nat.le_refl _,fun _ _ _=>rfl⟩,Grows.refl _ _,fun id b d hi hm=>absurd (hr.dom id b d hm).1 (by omega)⟩
theorem Xr {μ:Mu} {h h':H} {w w':World} {n s:Nat} {k:Blk} {o:Obj} (hr:Rel μ h w) (hp:h.push k=some (n,h')) (h1:w'.os=w.os) (h2:w'.tape=w.tape) (h3:w'.output=w.output)
    (hh:w'.heap=w.heap.push o) (hsz:∀ ccs t fr,o=.cells ccs t fr→ccs.size=s) (hk:BlkRel (upd μ h.next (w.heap.size,0) s) w' w.heap.size 0 k):n=h.next∧Post μ h w (upd μ h.next (w.heap.size,0) s) h' w':=by
  obtain ⟨rfl,e1,e2,wf,hg⟩:=H.push_some hp hr.wf
  have e2':=e2
  have hlow:∀ b,b < w.heap.size→w'.heap[b]?=w.heap[b]?:=fun b hb=>by rw [hh,Array.getElem?_push,if_neg (by omega)]
  have hmono:Le μ (upd μ h.next (w.heap.size,0) s):=Un _ _ fun p hm=>by
    have:=(hr.dom _ p.1 p.2 hm).1;omega
  refine ⟨rfl,fun id hi=>⟨ZF _ _ _ (by omega),Wq _ _ _ (by omega)⟩,⟨wf,?_,?_,?_,?_,hr.glb.step e2 (fun id hi=>by have:=hr.wf.low;rw [hg,if_neg (by omega)]) (fun id hi=>ZF _ _ _ (by have:=hr.wf.low;omega))⟩,⟨h1,h2,h3,by rw [hh];simp,fun b hb _=>hlow b hb⟩,⟨by omega,e2,fun id hi _=>?_,fun id hi=>?_,fun id hi hl=>?_⟩,?_⟩
  · intro id b d hm
    by_cases hid:id=h.next
    · subst hid; rw [Ze] at hm; injection hm with hm; injection hm with hb hd; subst hb hd
      exact ⟨by omega,by rw [hh];simp⟩
    · rw [ZF _ _ _ hid] at hm
      have:=hr.dom id b d hm
      exact ⟨by omega,by rw [hh];simp;omega⟩
  · intro i j b d e hi hj hli hlj hbj
    have old:∀ i,i≠h.next→∀ b d,upd μ h.next (w.heap.size,0) s i=some (b,d)→b < w.heap.size:=fun i hi b d hm=>by
      rw [ZF _ _ _ hi] at hm;exact (hr.dom i b d hm).2
    by_cases e1:i=h.next <;> by_cases e2:j=h.next
    · rw [e1,e2]
    · subst e1;rw [Ze] at hi;injection hi with hi;injection hi with hb;have:=old j e2 b e hj;omega
    · subst e2;rw [Ze] at hj;injection hj with hj;injection hj with hb;have:=old i e1 b d hi;omega
    · rw [ZF _ _ _ e1] at hi; rw [ZF _ _ _ e2] at hj
      rw [hg,if_neg e1] at hli;rw [hg,if_neg e2] at hlj
      exact hr.inj i j b d e hi hj hli hlj (by rw [e2'] at hbj;exact hbj)
  · intro id b d hm
    rw [hg,e2']
    by_cases hid:id=h.next
    · subst hid; rw [Ze] at hm; injection hm with hm; injection hm with hb hd; subst hb hd
      rw [if_pos rfl];exact hk.any
    · rw [if_neg hid]
      rw [ZF _ _ _ hid] at hm
      exact (hr.blk id b d hm).mono hmono fun _=>hlow b (hr.dom id b d hm).2
  · intro id b d ccs t fr hm hw
    by_cases hid:id=h.next
    · subst hid; rw [Ze] at hm; injection hm with hm; injection hm with hb hd; subst hb hd
      rw [UW]
      rw [hh] at hw;simp at hw;exact hsz _ _ _ hw
    · rw [ZF _ _ _ hid] at hm; rw [Wq _ _ _ hid]
      exact hr.cnt id b d ccs t fr hm (by rw [← hlow b (hr.dom id b d hm).2];exact hw)
  · rw [hg,if_neg (by omega)]
  · rw [hg,if_neg];have:=hr.wf.low;omega
  · rw [hg,if_neg (by omega)] at hl;exact hl
  · intro id b d hi hm hb hl
    by_cases hid:id=h.next
    · subst hid;rw [Ze] at hm;injection hm with hm;injection hm with hb' hd;omega
    · rw [ZF _ _ _ hid] at hm;exact absurd (hr.dom id b d hm).1 (by omega)
theorem WH {μ:Mu} {h h':H} {w:World} {id:Nat} {k:Blk} (hr:Rel μ h w) (hp:h.put id k=some h'):Nat.ble h.base id=true:=by
  rw [Qk];exact (H.put_some hp hr.wf).2.1
theorem Yd {μ : Mu} {h h' : H} {w w' : World} {id b d : Nat} {k : Blk} (hr : Rel μ h w) (hp : h.put id k = some h') (hm : μ id = some (b, d)) (hl : (h.get id).live = true)
    (h1:w'.os=w.os) (h2:w'.tape=w.tape) (h3:w'.output=w.output) (hs:w'.heap.size=w.heap.size) (hh:∀ c,c≠b→w'.heap[c]?=w.heap[c]?) (hc:∀ ccs t fr,w'.heap[b]?=some (.cells ccs t fr)→∃ ccs' t' fr',w.heap[b]?=some (.cells ccs' t' fr')∧ccs'.size=ccs.size) (hk:BlkRel μ w' b d k):Post μ h w μ h' w':=by
  obtain ⟨hi,hb,e1,e2,wf,hg⟩:=H.put_some hp hr.wf
  have hlive:∀ i,(h'.get i).live=true→(h.get i).live=true:=fun i hli=>by
    by_cases e:i=id
    · subst e;exact hl
    · rwa [hg,if_neg e] at hli
  refine ⟨fun _ _=>⟨rfl,rfl⟩,⟨wf,?_,?_,?_,?_,hr.glb.step e2 (fun i hi=>by rw [hg,if_neg (by omega)]) (fun _ _=>rfl)⟩,⟨h1,h2,h3,by omega,fun c hc hn=>hh c ?_⟩,⟨by omega,e2,fun i hi' hmi=>?_,fun i hi'=>?_,fun i _ hli=>hlive i hli⟩,?_⟩
  · intro i c e hmi;have:=hr.dom i c e hmi;exact ⟨by omega,by omega⟩
  · intro i j c d' e hmi hmj hli hlj hbj
    exact hr.inj i j c d' e hmi hmj (hlive i hli) (hlive j hlj) (by rw [e2] at hbj;exact hbj)
  · intro i c e hmi
    rw [hg,e2]
    by_cases ei:i=id
    · subst ei;rw [if_pos rfl];rw [hm] at hmi;injection hmi with hmi;injection hmi with ec ee;subst ec ee;exact hk.any
    · rw [if_neg ei]
      cases hli:(h.get i).live with
      | false =>
        have:h.get i=.dead:=by revert hli;cases h.get i <;> simp [Blk.live]
        rw [this];trivial
      | true =>
        exact (hr.blk i c e hmi).mono (Le.refl _) fun _=>hh c (fun ec=>by
          subst ec;exact ei (hr.inj i id c e d hmi hm hli hl hb))
  · intro i c e ccs t fr hmi hw
    by_cases ec:c=b
    · subst ec
      obtain ⟨ccs',t',fr',q1,q2⟩:=hc ccs t fr hw
      rw [← q2];exact hr.cnt i c e _ _ _ hmi q1
    · exact hr.cnt i c e ccs t fr hmi (by rw [← hh c ec];exact hw)
  · intro ec; subst ec
    have:=hn id d hb hm;rw [hl] at this;cases this
  · rw [hg,if_neg];intro e;subst e;rw [hm] at hmi;cases hmi
  · rw [hg,if_neg];omega
  · intro i c e hi' hmi;exact absurd (hr.dom i c e hmi).1 (by omega)
theorem GA {μ:Mu} {h h':H} {w:World} {id b d:Nat} {k:Blk} (hr:Rel μ h w) (hp:h.put id k=some h') (hm:μ id=some (b,d)) (hl:(h.get id).live=true) (hk:BlkRel μ w b d k):Post μ h w μ h' w :=
  Yd hr hp hm hl rfl rfl rfl rfl (fun _ _=>rfl) (fun ccs t fr he=>⟨ccs,t,fr,he,rfl⟩) hk
end Go.Am
namespace Go.Am
open Go
def QeG:IntKind→Nat
  | .i8=>0 | .i16=>1 | .i32=>2 | .i64=>3 | .u8=>4 | .u16=>5 | .u32=>6 | .u64=>7
def keq (a b:IntKind):Bool:=Nat.beq (QeG a) (QeG b)
theorem W3 {a b:IntKind}:keq a b=true ↔ a=b:=by
  unfold keq;cases a <;> cases b <;> simp [QeG]
def kHi:IntKind→Nat
  | .i8=>128 | .i16=>32768 | .i32=>2147483648 | .i64=>9223372036854775808 | .u8=>256 | .u16=>65536 | .u32=>4294967296 | .u64=>18446744073709551616
def kLo:IntKind→Nat
  | .i8=>128 | .i16=>32768 | .i32=>2147483648 | .i64=>9223372036854775808 | _=>0
def KO:IntKind→Nat
  | .i8=>256 | .i16=>65536 | .i32=>4294967296 | .i64=>18446744073709551616 | .u8=>256 | .u16=>65536 | .u32=>4294967296 | .u64=>18446744073709551616
theorem QaB (k:IntKind):KO k=2 ^ k.bits:=by cases k <;> rfl
def Qd (k:IntKind) (n:Int):Int :=
  Int.rec (motive:=fun _=>Int) (fun m=>Bool.rec (k.wrap n) (Int.ofNat m) (Nat.blt m (kHi k))) (fun m=>Bool.rec (k.wrap n) (Int.negSucc m) (Nat.blt m (kLo k))) n
theorem kHi_le (k:IntKind):kHi k≤2 ^ k.bits:=by cases k <;> decide
theorem kHi_signed (k:IntKind) (h:k.signed=true):kHi k=2 ^ (k.bits - 1)∧2 ^ k.bits=2 * 2 ^ (k.bits - 1):=by cases k <;> first | decide | cases h
theorem kLo_signed (k:IntKind) (h:0 < kLo k):k.signed=true∧kLo k=2 ^ (k.bits - 1)∧2 ^ k.bits=2 * 2 ^ (k.bits - 1):=by cases k <;> first | decide | cases h
theorem Jj (n:Nat):((2 ^ n:Nat):Int)=(2:Int) ^ n:=by simp
theorem Kn (k:IntKind) (m:Nat) (h:m < kHi k):k.wrap (Int.ofNat m)=Int.ofNat m:=by
  have hle:=kHi_le k
  have h1:(Int.ofNat m) % (2 ^ k.bits:Int)=Int.ofNat m:=by
    rw [← Jj]
    exact Int.emod_eq_of_lt (Int.natCast_nonneg m) (by show (m:Int) < _;omega)
  unfold IntKind.wrap
  simp only [h1]
  split
  · rename_i hc
    simp only [Bool.and_eq_true,decide_eq_true_eq] at hc
    obtain ⟨e,_⟩:=kHi_signed k hc.1
    have h2:=hc.2
    rw [← Jj] at h2
    have:(Int.ofNat m:Int)=(m:Int):=rfl
    omega
  · rfl
theorem wrap_neg (k:IntKind) (m:Nat) (h:m < kLo k):k.wrap (Int.negSucc m)=Int.negSucc m:=by
  obtain ⟨hs,e,e2⟩:=kLo_signed k (by omega)
  have hp:0 < 2 ^ (k.bits - 1):=Nat.pow_pos (by omega)
  have h1:(Int.negSucc m) % (2 ^ k.bits:Int)=((2 ^ k.bits:Nat):Int) - (m+1):=by
    rw [← Jj,Int.negSucc_emod _ (by omega),Int.emod_eq_of_lt (by omega) (by omega)];omega
  unfold IntKind.wrap
  simp only [h1,hs,Bool.true_and]
  rw [← Jj,← Jj]
  rw [if_pos (by simp only [decide_eq_true_eq];omega)]
  omega
theorem Z2 (k:IntKind) (n:Int):Qd k n=k.wrap n:=by
  cases n with
  | ofNat m =>
    show (Bool.rec (k.wrap (Int.ofNat m)) (Int.ofNat m) (Nat.blt m (kHi k)):Int)=_
    rw [Str.brec];split
    · rename_i h;rw [QH] at h;exact (Kn k m h).symm
    · rfl
  | negSucc m =>
    show (Bool.rec (k.wrap (Int.negSucc m)) (Int.negSucc m) (Nat.blt m (kLo k)):Int)=_
    rw [Str.brec];split
    · rename_i h;rw [QH] at h;exact (wrap_neg k m h).symm
    · rfl
def ltI (a b:Int):Bool :=
  Int.rec (motive:=fun _=>Bool) (fun m=>Int.rec (motive:=fun _=>Bool) (fun n=>Nat.blt m n) (fun _=>false) b) (fun m=>Int.rec (motive:=fun _=>Bool) (fun _=>true) (fun n=>Nat.blt n m) b) a
theorem Vm (a b:Int):ltI a b=decide (a < b):=by
  rw [Bool.eq_iff_iff,decide_eq_true_eq]
  cases a <;> cases b
  · show Nat.blt _ _=true ↔ _;rw [QH];simp
  · show false=true ↔ _;simp;omega
  · show true=true ↔ _;simp;omega
  · show Nat.blt _ _=true ↔ _;rw [QH];omega
def eqI (a b:Int):Bool :=
  Int.rec (motive:=fun _=>Bool) (fun m=>Int.rec (motive:=fun _=>Bool) (fun n=>Nat.beq m n) (fun _=>false) b) (fun m=>Int.rec (motive:=fun _=>Bool) (fun _=>false) (fun n=>Nat.beq n m) b) a
theorem WV (a b:Int):eqI a b=(a == b):=by
  rw [Bool.eq_iff_iff,beq_iff_eq]
  cases a <;> cases b
  · show Nat.beq _ _=true ↔ _;rw [Nat.beq_eq];exact ⟨fun h=>congrArg Int.ofNat h,fun h=>Int.ofNat.inj h⟩
  · show false=true ↔ _;simp
  · show false=true ↔ _;simp
  · show Nat.beq _ _=true ↔ _;rw [Nat.beq_eq];exact ⟨fun h=>congrArg Int.negSucc h.symm,fun h=>(Int.negSucc.inj h).symm⟩
def toU (k:IntKind) (n:Int):Nat :=
  Int.rec (motive:=fun _=>Nat) (fun m=>Nat.mod m (KO k)) (fun m=>Nat.sub (Nat.sub (KO k) 1) (Nat.mod m (KO k))) n
theorem UX (k:IntKind) (n:Int):toU k n=(BitVec.ofInt k.bits n).toNat:=by
  rw [BitVec.toNat_ofInt]
  cases n with
  | ofNat m =>
    show m % KO k=_
    rw [QaB];simp;rfl
  | negSucc m =>
    show (KO k - 1) - m % KO k=_
    rw [QaB]
    have hp:0 < 2 ^ k.bits:=Nat.pow_pos (by omega)
    generalize 2 ^ k.bits=q at *
    rw [Int.negSucc_emod _ (by omega)]
    have:=Nat.mod_lt m hp
    omega
def QdH (op:BinOp) (k:IntKind) (x y:Int):Option Int :=
  match op with
  | .and=>some (Qd k (Int.ofNat (Nat.land (toU k x) (toU k y))))
  | .or=>some (Qd k (Int.ofNat (Nat.lor (toU k x) (toU k y))))
  | .xor=>some (Qd k (Int.ofNat (Nat.xor (toU k x) (toU k y))))
  | .andNot=>some (Qd k (Int.ofNat (Nat.land (toU k x) (Nat.sub (Nat.sub (KO k) 1) (toU k y)))))
  | _=>none
def shlI (k:IntKind) (x:Int) (y:Int):Option Int :=
  Int.rec (motive:=fun _=>Option Int) (fun n=>some (Qd k (Int.mul x (Int.ofNat (Nat.shiftLeft 1 (min n k.bits)))))) (fun _=>none) y
def shrI (k:IntKind) (x:Int) (y:Int):Option Int :=
  Int.rec (motive:=fun _=>Option Int) (fun n=>some (Int.rec (motive:=fun _=>Int) (fun m=>Int.ofNat (Nat.shiftRight m (min n k.bits))) (fun m=>Int.negSucc (Nat.shiftRight m (min n k.bits))) x)) (fun _=>none) y
def Qcu (op:BinOp) (k:IntKind) (x y:Int):Option AV :=
  match op with
  | .add=>some (.int k (Qd k (Int.add x y)))
  | .sub=>some (.int k (Qd k (Int.sub x y)))
  | .mul=>some (.int k (Qd k (Int.mul x y)))
  | .quo=>Bool.rec (some (.int k (Qd k (Int.tdiv x y)))) none (eqI y 0)
  | .rem=>Bool.rec (some (.int k (Int.tmod x y))) none (eqI y 0)
  | .eql=>some (.bool (eqI x y))
  | .neq=>some (.bool (Bool.not (eqI x y)))
  | .lss=>some (.bool (ltI x y))
  | .leq=>some (.bool (Bool.not (ltI y x)))
  | .gtr=>some (.bool (ltI y x))
  | .geq=>some (.bool (Bool.not (ltI x y)))
  | .and | .or | .xor | .andNot=>(QdH op k x y).map (.int k)
  | .shl | .shr=>none
theorem QdG (P:Program) (w:World) {op:BinOp} {k:IntKind} {x y r:Int} (h:QdH op k x y=some r):(Op.intBits op k x y).run P w=.ok (.int k r) w:=by
  have hnot:∀ z:BitVec k.bits,(~~~z).toNat=KO k - 1 - z.toNat:=fun z=>by rw [BitVec.toNat_not,QaB]
  cases op <;> simp only [QdH] at h <;> first | cases h | skip
  · show Result.ok (Value.int k (k.wrap ((BitVec.ofInt k.bits x &&& BitVec.ofInt k.bits y).toNat : Int))) w = _
    rw [Z2,UX,UX,BitVec.toNat_and];rfl
  · show Result.ok (Value.int k (k.wrap ((BitVec.ofInt k.bits x ||| BitVec.ofInt k.bits y).toNat : Int))) w = _
    rw [Z2,UX,UX,BitVec.toNat_or];rfl
  · show Result.ok (Value.int k (k.wrap ((BitVec.ofInt k.bits x ^^^ BitVec.ofInt k.bits y).toNat : Int))) w = _
    rw [Z2,UX,UX,BitVec.toNat_xor];rfl
  · show Result.ok (Value.int k (k.wrap ((BitVec.ofInt k.bits x &&& ~~~BitVec.ofInt k.bits y).toNat : Int))) w = _
    rw [Z2,UX,UX,BitVec.toNat_and,hnot];rfl
theorem QdI (P:Program) (w:World) (t:TypeId) {op:BinOp} {k:IntKind} {x y:Int} {r:AV} (h:Qcu op k x y=some r):∃ v,(binOp op t (.int k x) (.int k y)).run P w=.ok v w∧∀ μ,r.rel μ v:=by
  unfold Qcu at h
  split at h
  case h_1=>injection h with h;subst h;exact ⟨_,by simp [binOp,Op.intArith];rfl,fun μ=>by simp only [AV.rel,Z2];rfl⟩
  case h_2=>injection h with h;subst h;exact ⟨_,by simp [binOp,Op.intArith];rfl,fun μ=>by simp only [AV.rel,Z2];rfl⟩
  case h_3=>injection h with h;subst h;exact ⟨_,by simp [binOp,Op.intArith];rfl,fun μ=>by simp only [AV.rel,Z2];rfl⟩
  case h_4=>
    rw [Str.brec,WV] at h;split at h
    · cases h
    · rename_i h0; simp at h0
      injection h with h;subst h;exact ⟨.int k (k.wrap (x.tdiv y)),by simp [binOp,Op.intDiv,h0],fun μ=>by simp [AV.rel,Z2]⟩
  case h_5=>
    rw [Str.brec,WV] at h;split at h
    · cases h
    · rename_i h0; simp at h0
      injection h with h;subst h;exact ⟨.int k (x.tmod y),by simp [binOp,Op.intDiv,h0],fun μ=>by simp [AV.rel]⟩
  case h_6=>injection h with h;subst h;exact ⟨_,by simp [binOp,Op.intCmp];rfl,fun μ=>by simp [AV.rel,WV]⟩
  case h_7=>injection h with h;subst h;exact ⟨_,by simp [binOp,Op.intCmp];rfl,fun μ=>by simp [AV.rel,WV];rfl⟩
  case h_8=>injection h with h;subst h;exact ⟨_,by simp [binOp,Op.intCmp];rfl,fun μ=>by simp [AV.rel,Vm]⟩
  case h_9=>injection h with h;subst h;exact ⟨_,by simp [binOp,Op.intCmp];rfl,fun μ=>by simp only [AV.rel,Vm];rw [← decide_not];simp⟩
  case h_10=>injection h with h;subst h;exact ⟨_,by simp [binOp,Op.intCmp];rfl,fun μ=>by simp [AV.rel,Vm]⟩
  case h_11=>injection h with h;subst h;exact ⟨_,by simp [binOp,Op.intCmp];rfl,fun μ=>by simp only [AV.rel,Vm];rw [← decide_not];simp⟩
  case h_12 | h_13 | h_14 | h_15=>
    simp only [Option.map_eq_some_iff] at h
    obtain ⟨q,hq,rfl⟩:=h
    exact ⟨_,by simp [binOp];exact QdG P w hq,fun μ=>by simp [AV.rel]⟩
  case h_16=>cases h
  case h_17=>cases h
theorem shlI_ok (P:Program) (w:World) (t:TypeId) {k k':IntKind} {x y r:Int} (h:shlI k x y=some r):(binOp .shl t (.int k x) (.int k' y)).run P w=.ok (.int k r) w:=by
  cases y with
  | ofNat n =>
    have h:some (Qd k (Int.mul x (Int.ofNat (Nat.shiftLeft 1 (min n k.bits)))))=some r:=h
    injection h with h;subst h
    rw [Z2]
    have:Int.mul x (Int.ofNat (Nat.shiftLeft 1 (min n k.bits)))=x * 2 ^ (min n k.bits):=by
      rw [show Nat.shiftLeft 1 (min n k.bits)=2 ^ (min n k.bits) from Nat.one_shiftLeft _]
      show x * ((2 ^ (min n k.bits):Nat):Int)=_
      simp
    rw [this]
    have h0:¬ (Int.ofNat n < 0):=by simp
    have h1:(Int.ofNat n).toNat=n:=rfl
    simp only [binOp,Op.shift,h0,if_false,h1,Sem.run_pure]
  | negSucc n=>cases h
theorem shrI_ok (P : Program) (w : World) (t : TypeId) {k k' : IntKind} {x y r : Int} (h : shrI k x y = some r) : (binOp .shr t (.int k x) (.int k' y)).run P w = .ok (.int k r) w := by
  cases y with
  | ofNat n =>
    simp only [shrI] at h
    injection h with h
    have:x.fdiv (2 ^ (min n k.bits))=r:=by
      rw [← h]
      generalize min n k.bits=q
      have hp:(0:Int)≤2 ^ q:=by exact_mod_cast Nat.zero_le _
      rw [Int.fdiv_eq_ediv_of_nonneg _ hp]
      cases x with
      | ofNat m =>
        show _=Int.ofNat (m >>> q)
        rw [Nat.shiftRight_eq_div_pow];simp
      | negSucc m =>
        show _=Int.negSucc (m >>> q)
        rw [Nat.shiftRight_eq_div_pow]
        rw [Int.negSucc_ediv _ (by exact_mod_cast Nat.pow_pos (by omega))]
        simp [Int.negSucc_eq];rfl
    have h0:¬ (Int.ofNat n < 0):=by simp
    have h1:(Int.ofNat n).toNat=n:=rfl
    simp only [binOp,Op.shift,h0,if_false,h1,this,Sem.run_pure]
  | negSucc n=>cases h
end Go.Am
namespace Go.Am
open Go
inductive Kd where
  | other | bool | int (k:IntKind) | str | unsafe_ | ptr (e:Nat) | slice (e:Nat) | arr (n e:Nat) | struct (fs:List (Nat × Nat)) | map (k e:Nat) | func | iface
structure TI where
  kd:Kd
  size:Nat
  bytes:Nat
  zero:List AV
  eqp:Bool
abbrev Ty:=Nat→TI
def Kd.agg:Kd→Bool
  | .struct _ | .arr _ _=>true
  | _=>false
def Kd.simple:Kd→Bool
  | .bool=>true
  | .int _=>true
  | .str=>true
  | .ptr _=>true
  | _=>false
def Kd.known:Kd→Bool
  | .other=>false
  | _=>true
def Kd.isU8:Kd→Bool
  | .int .u8=>true
  | _=>false
def Yh {α:Type} (n:Nat) (l:List α):List α :=
  Nat.rec (motive:=fun _=>List α→List α) (fun l=>l) (fun _ ih l=>List.rec (motive:=fun _=>List α) [] (fun _ t _=>ih t) l) n l
def Z4 {α:Type} (n:Nat) (l:List α):Option (List α) :=
  Nat.rec (motive:=fun _=>List α→Option (List α)) (fun _=>some []) (fun _ ih l=>List.rec (motive:=fun _=>Option (List α)) none (fun a t _=>Option.rec none (fun r=>some (a::r)) (ih t)) l) n l
def lput {α:Type} (vs:List α) (l:List α):Option (List α) :=
  List.rec (motive:=fun _=>List α→Option (List α)) (fun l=>some l) (fun v _ ih l=>List.rec (motive:=fun _=>Option (List α)) none (fun _ t _=>Option.rec none (fun r=>some (v::r)) (ih t)) l) vs l
def Q7 {α:Type} (off:Nat) (vs:List α) (l:List α):Option (List α) :=
  Nat.rec (motive:=fun _=>List α→Option (List α)) (fun l=>lput vs l) (fun _ ih l=>List.rec (motive:=fun _=>Option (List α)) none (fun a t _=>Option.rec none (fun r=>some (a::r)) (ih t)) l) off l
def Q8 {α:Type} (l:List α) (i:Nat):Option α :=
  List.rec (motive:=fun _=>Nat→Option α) (fun _=>none) (fun a _ ih i=>Nat.rec (motive:=fun _=>Option α) (some a) (fun j _=>ih j) i) l i
theorem Uc {α:Type}:∀ (n:Nat) (l:List α),Yh n l=l.drop n
  | 0,l=>rfl
  | n+1,[]=>rfl
  | n+1,_::t=>by show Yh n t=_;rw [Uc n t];rfl
theorem Vk {α:Type}:∀ (n:Nat) (l:List α),Z4 n l=if n≤l.length then some (l.take n) else none
  | 0,l=>by rw [if_pos (Nat.zero_le _)];rfl
  | n+1,[]=>by rw [if_neg (by simp)];rfl
  | n + 1, a :: t => by
    show (Option.rec none (fun r=>some (a::r)) (Z4 n t):Option (List α))=_
    rw [Vk n t];by_cases h:n≤t.length
    · simp [h]
    · simp [h]
theorem Qdh {α:Type}:∀ (vs l:List α),lput vs l=if vs.length≤l.length then some (vs++l.drop vs.length) else none
  | [],l=>by rw [if_pos (by simp)];rfl
  | v::vs,[]=>by rw [if_neg (by simp)];rfl
  | v :: vs, a :: t => by
    show (Option.rec none (fun r=>some (v::r)) (lput vs t):Option (List α))=_
    rw [Qdh vs t];by_cases h:vs.length≤t.length
    · simp [h]
    · simp [h]
theorem Wa {α:Type} (vs:List α):∀ (off:Nat) (l:List α),Q7 off vs l=if off+vs.length≤l.length then some (l.take off++vs++l.drop (off+vs.length)) else none
  | 0,l=>by show lput vs l=_;rw [Qdh];simp
  | off + 1, [] => by
    show none=_
    rw [if_neg (by simp)]
  | off + 1, a :: t => by
    show (Option.rec none (fun r=>some (a::r)) (Q7 off vs t):Option (List α))=_
    rw [Wa vs off t];by_cases h:off+vs.length≤t.length
    · have h' : off + 1 + vs.length ≤ (a :: t).length := by simp; omega
      rw [if_pos h,if_pos h',show off+1+vs.length=(off+vs.length)+1 from by omega];simp
    · have h' : ¬ off + 1 + vs.length ≤ (a :: t).length := by simp; omega
      rw [if_neg h,if_neg h']
theorem Vn {α:Type}:∀ (l:List α) (i:Nat),Q8 l i=l[i]?
  | [],i=>rfl
  | a::t,0=>rfl
  | a::t,i+1=>by show Q8 t i=_;rw [Vn t i];simp
def UG:AV→Option (List AV)
  | .junk | .tuple _=>none
  | .agg cs=>some cs
  | v=>some [v]
def AV.one:AV→Bool
  | .junk | .agg _ | .tuple _=>false
  | _=>true
def Wy : List AV → Bool
  | []=>true
  | a :: t => match a.one with
    | true=>Wy t
    | false=>false
def Qau:Value→AV
  | .bool b=>.bool b
  | .int k n=>.int k n
  | .string s=>.str (Str.of s.data.toList)
  | .pointer none=>.nilp
  | .slice none 0 0=>.nils
  | .map none=>.nilm
  | .nilFunc=>.nilf
  | .nilIface=>.nili
  | _=>.junk
def Qch:List Value→List AV
  | []=>[]
  | v::r=>Qau v::Qch r
def Qc5 (v:Value):AV :=
  match v with
  | .agg cs=>.agg (Qch cs.toList)
  | v=>Qau v
def Ul (h:H) (g:Nat):Option (List AV) :=
  match Nat.blt g h.base,h.get g with
  | true,.cells false _ cs=>some cs
  | _,_=>none
def Zn (v:AV) (h:H):Option AV :=
  match v with
  | .ptr id off => match h.get id with
    | .cells _ _ cs=>Q8 cs off
    | .bytes _ _ _ s=>Bool.rec none (some (.int .u8 (Int.ofNat (s.get off)))) (Nat.blt off s.len)
    | _=>none
  | .glob g off => match Ul h g with
    | some cs=>Q8 cs off
    | none=>none
  | _=>none
def Y7 (n:Nat) (v:AV) (h:H):Option AV :=
  match v with
  | .ptr id off => match h.get id with
    | .cells _ _ cs => match Z4 n (Yh off cs) with
      | some l=>some (.agg l)
      | none=>none
    | _=>none
  | .glob g off => match Ul h g with
    | some cs => match Z4 n (Yh off cs) with
      | some l=>some (.agg l)
      | none=>none
    | none=>none
  | _=>none
def Yu (n:Nat) (v x:AV) (h:H):Option H :=
  match v with
  | .ptr id off => match h.get id with
    | .cells mv t cs => match UG x with
      | some xs => Bool.rec none (Bool.rec none (match Q7 off xs cs with
        | some cs'=>h.put id (.cells mv t cs')
        | none=>none) (Wy xs)) (Nat.beq xs.length n)
      | none=>none
    | .bytes t fz sg s => match x with
      | .int .u8 (.ofNat c)=>Bool.rec none (Bool.rec none (Bool.rec none (Bool.rec none (h.put id (.bytes t fz sg (s.set off c))) (Nat.beq n 1)) (Nat.blt c 256)) (Nat.ble fz off)) (Nat.blt off s.len)
      | _=>none
    | _=>none
  | _=>none
def UJ (foff:Nat) (v:AV):Option AV :=
  match v with
  | .ptr id off=>some (.ptr id (Nat.add off foff))
  | .glob g off=>some (.glob g (Nat.add off foff))
  | _=>none
def Gr (agg:Bool) (n off:Nat) (cs:List AV):Option AV :=
  match agg with
  | true => match Z4 n (Yh off cs) with
    | some l=>some (.agg l)
    | none=>none
  | false=>Q8 cs off
def QaU (agg:Bool) (n foff:Nat) (v:AV):Option AV :=
  match v with
  | .agg cs=>Gr agg n foff cs
  | _=>none
def Vw (size:Nat) (v i:AV):Option AV :=
  match v,i with
  | .slice id off len _ _ _,.int _ (.ofNat i)=>Bool.rec none (WT (Nat.add off (Nat.mul i size)) fun o=>some (.ptr id o)) (Nat.blt i len)
  | _,_=>none
def YV (len size:Nat) (v i:AV):Option AV :=
  match v,i with
  | .ptr id off,.int _ (.ofNat i)=>Bool.rec none (WT (Nat.add off (Nat.mul i size)) fun o=>some (.ptr id o)) (Nat.blt i len)
  | .glob g off,.int _ (.ofNat i)=>Bool.rec none (WT (Nat.add off (Nat.mul i size)) fun o=>some (.glob g o)) (Nat.blt i len)
  | _,_=>none
def Uk (v i:AV):Option AV :=
  match v,i with
  | .str s,.int _ (.ofNat i)=>Bool.rec none (WT (s.get i) fun c=>some (.int .u8 (Int.ofNat c))) (Nat.blt i s.len)
  | _,_=>none
def JJ (len:Nat) (agg:Bool) (size:Nat) (v i:AV):Option AV :=
  match v,i with
  | .agg cs,.int _ (.ofNat i)=>Bool.rec none (Gr agg size (Nat.mul i size) cs) (Nat.blt i len)
  | _,_=>none
def bnd (d:Nat) (x:Option AV):Option Nat :=
  match x with
  | none=>some d
  | some (.int _ (.ofNat n))=>some n
  | _=>none
def Ui (v:AV) (lo hi:Option AV):Option AV :=
  match v with
  | .str s => match bnd 0 lo, bnd s.len hi with
    | some l,some h=>Bool.rec none (Bool.rec none (some (.str (s.sub l h))) (Nat.ble l h)) (Nat.ble h s.len)
    | _,_=>none
  | _=>none
def Vv (size:Nat) (v:AV) (lo hi mx:Option AV):Option AV :=
  match v with
  | .slice id off len cap es ex => match bnd 0 lo, bnd len hi, mx with
    | some l,some h,none=>Bool.rec none (Bool.rec none (Bool.rec none (Bool.rec
        (WT (Nat.add off (Nat.mul l size)) fun o=>WT (Nat.sub h l) fun n=>WT (Nat.sub cap l) fun c=>some (.slice id o n c es ex))
        (WT (Nat.sub h l) fun n=>some (.slice id off n 0 es ex))
        (Nat.beq cap l)) (Nat.beq es size)) (Nat.ble l h)) (Nat.ble h cap)
    | _,_,_=>none
  | .nils => match bnd 0 lo, bnd 0 hi, mx with
    | some 0,some 0,none=>some .nils
    | _,_,_=>none
  | _=>none
def JH (size:Nat) (v:AV) (lo hi:Option AV) (mx:AV):Option AV :=
  match v with
  | .slice id off len cap es _ => match bnd 0 lo, hi, mx with
    | some l,some (.int _ (.ofNat h)),.int _ (.ofNat m)=>Bool.rec none (Bool.rec none (Bool.rec none (Bool.rec none (Bool.rec
        (WT (Nat.add off (Nat.mul l size)) fun o=>WT (Nat.sub h l) fun n=>WT (Nat.sub m l) fun c=>some (.slice id o n c es true))
        (WT (Nat.sub h l) fun n=>some (.slice id off n 0 es true))
        (Nat.beq m l)) (Nat.beq es size)) (Nat.ble l h)) (Nat.ble h m)) (Nat.ble m cap)
    | _,_,_=>none
  | _=>none
def YC (T:Ty):Nat→Nat→AV→AV→Option Bool
  | 0,_,_,_=>none
  | f + 1, t, x, y =>
    match (T t).kd,x,y with
    | .bool,.bool a,.bool b=>some (Bool.rec (Bool.not b) b a)
    | .int _,.int k a,.int k' b=>Bool.rec none (some (eqI a b)) (keq k k')
    | .str,.str a,.str b=>some (a.beq b)
    | .ptr _,.nilp,.nilp=>some true
    | .ptr _,.nilp,.ptr _ _=>some false
    | .ptr _,.ptr _ _,.nilp=>some false
    | .slice _,.nils,.nils=>some true
    | .slice _,.nils,.slice _ _ _ _ _ _=>some false
    | .slice _,.slice _ _ _ _ _ _,.nils=>some false
    | .map _ _,.nilm,.nilm=>some true
    | .map _ _,.nilm,.map _=>some false
    | .map _ _,.map _,.nilm=>some false
    | .func,.nilf,.nilf=>some true
    | .func,.nilf,.func _ _ _=>some false
    | .func,.func _ _ _,.nilf=>some false
    | .iface,.nili,.nili=>some true
    | .iface,.nili,.iface _ _=>some false
    | .iface,.iface _ _,.nili=>some false
    | .ptr e, .ptr i a, .ptr j b => match Bool.and (T e).kd.known (Bool.and (Nat.ble 1 (T e).size) (Nat.beq i j)) with
      | true=>some (Nat.beq a b)
      | false=>none
    | .struct fs, .agg xs, .agg ys => match (T t).eqp with
      | true=>eqFs (YC T f) xs ys fs
      | false=>none
    | .iface, .iface tx a, .iface ty b => match Nat.beq tx ty with
      | true => match (T tx).kd.simple with
        | true=>YC T f tx a b
        | false=>none
      | false=>some false
    | _,_,_=>none
where
  eqFs (eq:Nat→AV→AV→Option Bool) (xs ys:List AV):List (Nat × Nat)→Option Bool
    | []=>some true
    | (off, t) :: fs => match Gr (T t).kd.agg (T t).size off xs, Gr (T t).kd.agg (T t).size off ys with
      | some a, some b => match eq t a b with
        | some true=>eqFs eq xs ys fs
        | some false=>some false
        | none=>none
      | _,_=>none
def QbZ (op:BinOp) (a b:Str):Option AV :=
  match op with
  | .add=>Bool.rec none (some (.str (a.cat b))) (Nat.ble (Nat.add a.len b.len) 9223372036854775807)
  | .eql=>some (.bool (a.beq b))
  | .neq=>some (.bool (Bool.not (a.beq b)))
  | .lss=>some (.bool (a.lt b))
  | .leq=>some (.bool (Bool.not (b.lt a)))
  | .gtr=>some (.bool (b.lt a))
  | .geq=>some (.bool (Bool.not (a.lt b)))
  | _=>none
def WO:Operand→Bool
  | .const _=>true
  | _=>false
def Kk (T:Ty) (op:BinOp) (t:Nat) (con:Bool) (a b:AV):Option AV :=
  match op,a,b with
  | .shl,.int k x,.int _ y=>(shlI k x y).map (.int k)
  | .shr,.int k x,.int _ y=>(shrI k x y).map (.int k)
  | op,.int k x,.int k' y=>Bool.rec none (Qcu op k x y) (keq k k')
  | op,.str x,.str y=>QbZ op x y
  | .eql, .nili, .nili => match con with
    | true=>(YC T 20 t .nili .nili).map .bool
    | false=>none
  | .neq, .nili, .nili => match con with
    | true=>(YC T 20 t .nili .nili).map fun b=>.bool (Bool.not b)
    | false=>none
  | .eql,x,y=>(YC T 20 t x y).map .bool
  | .neq,x,y=>(YC T 20 t x y).map fun b=>.bool (Bool.not b)
  | _,_,_=>none
def aUn (op:UnOp) (x:AV):Option AV :=
  match op,x with
  | .neg,.int k n=>some (.int k (Qd k (Int.sub 0 n)))
  | .not,.bool b=>some (.bool (Bool.not b))
  | .xor,.int k n=>(QdH .xor k (Bool.rec (Int.ofNat (Nat.sub (KO k) 1)) (-1) k.signed) n).map (.int k)
  | _,_=>none
def QdL (c a b:AV):Option AV :=
  match c with
  | .bool true=>some a
  | .bool false=>some b
  | _=>none
def X7 (v:AV):Option AV :=
  match v with
  | .ptr i f=>some (.ptr i f)
  | .iface t x=>some (.iface t x)
  | .func (.func f) a b=>some (.func (.func f) a b)
  | _=>none
def UN:List AV→List (Nat × Nat × AV)→Option (List AV)
  | cs,[]=>some cs
  | cs, (off, size, v) :: rest => match UG v with
    | some xs => Bool.rec none (match Q7 off xs cs with
      | some cs'=>UN cs' rest
      | none=>none) (Nat.beq xs.length size)
    | none=>none
def Jo (zero:List AV) (parts:List (Nat × Nat × AV)):Option AV :=
  match UN zero parts with
  | some cs=>some (.agg cs)
  | none=>none
def Xd (i:Nat) (v:AV):Option AV :=
  match v with
  | .tuple vs=>vs[i]?
  | _=>none
def GR (v:AV):Option AV :=
  match v with
  | .str s=>some (.int .i64 (Int.ofNat s.len))
  | _=>none
def NZ (v:AV):Option AV :=
  match v with
  | .nils=>some (.int .i64 (Int.ofNat 0))
  | .slice _ _ len _ _ _=>some (.int .i64 (Int.ofNat len))
  | _=>none
def aInt (k:IntKind) (v:AV):Option AV :=
  match v with
  | .int _ n=>some (.int k (Qd k n))
  | _=>none
def UH (v:AV) (h:H):Option AV :=
  match v with
  | .nils=>some (.str ⟨0,0⟩)
  | .slice id off len _ _ _ => match h.get id with
    | .bytes _ _ _ s=>Bool.rec none (some (.str (s.sub off (Nat.add off len)))) (Nat.ble (Nat.add off len) s.len)
    | _=>none
  | _=>none
end Go.Am
namespace Go.Am
open Go
def Qbz {α:Type} (a b:List α):List α:=List.rec (motive:=fun _=>List α) b (fun x _ ih=>x::ih) a
theorem KL {α:Type} (a b:List α):Qbz a b=a++b:=by
  induction a with
  | nil=>rfl
  | cons x a ih=>show x::Qbz a b=_;rw [ih];rfl
def Ua {α:Type} (n:Nat) (z:List α):List α:=Nat.rec (motive:=fun _=>List α) [] (fun _ ih=>Qbz z ih) n
theorem Jy {α:Type} (n:Nat) (z:List α):Ua (n+1) z=z++Ua n z:=KL _ _
def YW:List AV→Option Str
  | []=>some ⟨0,0⟩
  | .int .u8 (.ofNat c) :: r => Bool.rec none (match YW r with
    | some s=>some (Str.cat ⟨1,c⟩ s)
    | none=>none) (Nat.blt c 256)
  | _::_=>none
def Wd (u8:Bool) (t:Nat) (cs:List AV):Option Blk :=
  match u8 with
  | true => match YW cs with
    | some s=>some (.bytes t 0 false s)
    | none=>none
  | false=>some (.cells false t cs)
def Qfk (t:Nat) (zero:List AV):Option (Blk × (Nat→AV)):=some (.cells false t zero,fun n=>.ptr n 0)
def Qfj (t:Nat) (x:AV):Option (Blk × (Nat→AV)) :=
  match UG x with
  | some cs=>some (.cells false t cs,fun n=>.ptr n 0)
  | none=>none
def VO (size:Nat) (u8:Bool) (t:Nat) (zero:List AV) (n:Nat) (parts:List (Nat × Nat × AV)):Option (Blk × (Nat→AV)) :=
  match UN (Ua n zero) parts with
  | some cs => match Wd u8 t cs with
    | some k=>some (k,fun i=>.slice i 0 n n size true)
    | none=>none
  | none=>none
def X6 (e:Nat) (x:AV):Option (Blk × (Nat→AV)) :=
  match x with
  | .str s=>some (.bytes e 0 true s,fun n=>.slice n 0 s.len s.len 1 false)
  | _=>none
def aNew (a:Option (Blk × (Nat→AV))) (h:H):Option (AV × H) :=
  match a with
  | some (k, f) => match h.push k with
    | some (n,h')=>some (f n,h')
    | none=>none
  | none=>none
end Go.Am
namespace Go.Am
open Go
def Va (n : Nat) (v : AV) (lo hi : Option AV) (h : H) : Option (AV × H) :=
  match v with
  | .ptr id off => match bnd 0 lo, bnd n hi with
    | some l, some u => match Bool.and (Nat.ble u n) (Bool.and (Nat.ble l u) (Nat.blt l n)) with
      | true => match h.get id with
        | .cells false t cs => match YW cs with
          | some s => match Nat.ble (Nat.add off n) s.len with
            | true => match h.put id (.bytes t 0 true s) with
              | some h1=>WT (Nat.add off l) fun o=>WT (Nat.sub u l) fun m=>WT (Nat.sub n l) fun c=>some (.slice id o m c 1 true,h1)
              | none=>none
            | false=>none
          | none=>none
        | .bytes _ _ _ s => match Nat.ble (Nat.add off n) s.len with
          | true=>WT (Nat.add off l) fun o=>WT (Nat.sub u l) fun m=>WT (Nat.sub n l) fun c=>some (.slice id o m c 1 true,h)
          | false=>none
        | _=>none
      | false=>none
    | _,_=>none
  | _=>none
def D8 (x:AV) (h:H):Option Str :=
  match x with
  | .str s=>some s
  | .nils=>some ⟨0,0⟩
  | .slice id off len _ _ _ => match h.get id with
    | .bytes _ _ _ s=>Bool.rec none (some (s.sub off (Nat.add off len))) (Nat.ble (Nat.add off len) s.len)
    | _=>none
  | _=>none
def Qb5 (size:Nat) (x:AV) (h:H):Option (Nat × List AV) :=
  match x with
  | .nils=>some (0,[])
  | .slice id off len _ _ _ => match h.get id with
    | .cells _ _ cs => match Z4 (Nat.mul len size) (Yh off cs) with
      | some l=>some (len,l)
      | none=>none
    | _=>none
  | _=>none
def Qe:Nat:=140737488355328
def DR (fz off:Nat):Nat:=Nat.add (Nat.sub fz off) (Nat.sub (Nat.sub 1 (Nat.sub fz off)) (Nat.sub 1 fz))
theorem QbJ (fz off:Nat):fz - off≤DR fz off:=Nat.le_add_right _ _
theorem fzSub_pos {fz off:Nat} (h:0 < fz):0 < DR fz off:=by
  show 0 < (fz - off)+((1 - (fz - off)) - (1 - fz));omega
def WR (k:Blk) (n es:Nat) (h:H):Option (AV × H) :=
  match h.push k with
  | some (i,h')=>some (.slice i 0 n n es false,h')
  | none=>none
def Jq (e : Nat) (s x : AV) (h : H) : Option (AV × H) :=
  match D8 x h with
  | none=>none
  | some src => match s with
    | .nils=>Bool.rec (Bool.rec none (WR (.bytes e 0 false src) src.len 1 h) (Nat.ble src.len Qe)) (some (.nils,h)) (Nat.beq src.len 0)
    | .slice id off len cap es ex => match h.get id with
      | .bytes t fz sg str=>WT (Nat.add len src.len) fun need=>Bool.rec
          (Bool.rec none (Bool.rec none (let new:=Str.cat (str.sub off (Nat.add off len)) src
            Bool.rec
              (Bool.rec none (match h.put id .dead with
                | some h1=>WR (.bytes e (DR fz off) sg new) need 1 h1
                | none=>none) (Bool.rec false (Bool.rec false (Bool.rec (Nat.beq fz 0) (Nat.ble fz (Nat.add off len)) (Nat.blt 0 cap)) (Nat.beq t e)) (Nat.beq es 1)))
              (WR (.bytes e 0 false new) need 1 h) ex)
            (Nat.ble (Nat.add off len) str.len)) (Nat.ble need Qe))
          (Bool.rec
            (Bool.rec none (Bool.rec none (match h.put id (.bytes t fz sg (Str.cat (Str.cat (str.sub 0 (Nat.add off len)) src) (str.sub (Nat.add off need) str.len))) with
              | some h1=>some (.slice id off need cap es ex,h1)
              | none=>none) (Nat.ble (Nat.add off need) str.len)) (Nat.ble fz (Nat.add off len)))
            (some (.slice id off len cap es ex,h)) (Nat.beq src.len 0))
          (Nat.ble need cap)
      | _=>none
    | _=>none
def Jp (e size bytes : Nat) (s x : AV) (h : H) : Option (AV × H) :=
  match Qb5 size x h with
  | none=>none
  | some (n, src) => match s with
    | .nils=>Bool.rec (Bool.rec none (WR (.cells false e src) n size h) (Nat.ble (Nat.mul n bytes) Qe)) (some (.nils,h)) (Nat.beq n 0)
    | .slice id off len cap es ex => match h.get id with
      | .cells mv t cs=>WT (Nat.add len n) fun need=>Bool.rec
          (Bool.rec none (match Z4 (Nat.mul len size) (Yh off cs) with
            | some old => let new := Qbz old src
              Bool.rec (Bool.rec none (match h.put id .dead with
                | some h1=>WR (.cells true e new) need size h1
                | none=>none) (Bool.rec false (Bool.rec false (Wy src) (Nat.beq t e)) (Nat.beq es size))) (WR (.cells false e new) need size h) ex
            | none=>none) (Nat.ble (Nat.mul need bytes) Qe))
          (Bool.rec
            (Bool.rec none (match Q7 (Nat.add off (Nat.mul len size)) src cs with
              | some cs' => match h.put id (.cells mv t cs') with
                | some h1=>some (.slice id off need cap es ex,h1)
                | none=>none
              | none=>none) (Wy src))
            (some (.slice id off len cap es ex,h)) (Nat.beq n 0))
          (Nat.ble need cap)
      | _=>none
    | _=>none
end Go.Am
namespace Go.Am
open Go
def Jr:Kd→TypeDesc→Prop
  | .other,_=>True
  | .bool,d=>d=.bool
  | .int k,d=>d=.int k
  | .str,d=>d=.string
  | .unsafe_,d=>d=.unsafePointer
  | .ptr e,d=>d=.pointer e
  | .slice e,d=>d=.slice e
  | .arr n e,d=>d=.array n e
  | .struct fs,d=>∃ fields,d=.struct fields∧fs=fields.toList.map (fun f=>(f.offset,f.type))
  | .map k e,d=>d=.map k e
  | .func,d=>∃ a b c,d=.func a b c
  | .iface,d=>∃ ms,d=.interface ms
def J8:Mu:=⟨fun _=>none,fun _=>0⟩
structure Qfn (P:Program) (t:TypeId) (ti:TI):Prop where
  info:∃ i z,P.info? t=some i∧i.size=ti.size∧i.bytes=ti.bytes∧i.zero=some z∧AV.relL J8 ti.zero z.cells.toList∧(ti.kd.agg=true→∃ cs,z=.agg cs)
  und:∃ d,P.underlying t=some d∧Jr ti.kd d
  one:ti.kd.agg=false→∀ i z,P.info? t=some i→i.zero=some z→z.cells=#[z]
  cmp:ti.kd.simple=true→∃ i,P.info? t=some i∧i.comparable=true
  eqp:ti.eqp=true→P.eqGuardType P.depth t=false∧P.stoodInHeld t=false∧(∀ fs,P.underlying t=some (.struct fs)→∀ f∈fs,f.name ≠ "_")
def YN (P:Program) (T:Ty):Prop:=∀ t,(T t).kd.known=true→Qfn P t (T t)
section
variable {P:Program} {T:Ty} (hT:YN P T) {μ:Mu} {w:World}
include hT
theorem QJ {t:TypeId} {k:Kd} (h:(T t).kd=k) (hk:k.known=true):∃ d,P.underlying t=some d∧Jr k d:=by
  have:=(hT t (by rw [h];exact hk)).und;rwa [h] at this
theorem Q6 {t:TypeId} (h:(T t).kd.known=true):(sizeOf t).run P w=.ok (T t).size w:=by
  obtain ⟨i,z,h1,h2,_⟩:=(hT t h).info
  simp [sizeOf,typeInfo,h1,h2]
theorem K9 {t:TypeId} (h:(T t).kd.known=true):(isAgg t).run P w=.ok (T t).kd.agg w:=by
  obtain ⟨d,h1,h2⟩:=(hT t h).und
  unfold isAgg
  simp only [Sem.run_bind,run_underlying h1,Result.andThen_ok]
  revert h h2
  generalize (T t).kd=k
  intro h h2
  cases k <;> simp only [Jr,Kd.agg] at h2 ⊢
  case other=>cases h
  case struct fs=>obtain ⟨fields,rfl,_⟩:=h2;rfl
  case func=>obtain ⟨a,b,c,rfl⟩:=h2;rfl
  case iface=>obtain ⟨a,rfl⟩:=h2;rfl
  all_goals (subst h2;rfl)
theorem zero_run {t:TypeId} (h:(T t).kd.known=true):∃ z,(zeroValue t).run P w=.ok z w∧AV.relL J8 (T t).zero z.cells.toList∧((T t).kd.agg=true→∃ cs,z=.agg cs):=by
  obtain ⟨i,z,h1,_,_,h2,h3,h4⟩:=(hT t h).info
  exact ⟨z,by simp [zeroValue,typeInfo,h1,h2],h3,h4⟩
theorem zero_run1 {t:TypeId} (h:(T t).kd.known=true) (ha:(T t).kd.agg=false):∃ z,(zeroValue t).run P w=.ok z w∧AV.relL J8 (T t).zero [z]:=by
  obtain ⟨i,z,h1,_,_,h2,h3,_⟩:=(hT t h).info
  have:=(hT t h).one ha i z h1 h2
  rw [this] at h3
  exact ⟨z,by simp [zeroValue,typeInfo,h1,h2],by simpa using h3⟩
omit hT in
theorem XU {a:AV} {v:Value} {cs:List AV} (h:UG a=some cs) (hr:a.rel μ v):AV.relL μ cs v.cells.toList:=by
  have one:∀ {a:AV},cs=[a]→a.rel μ v→v.cells=#[v]→AV.relL μ cs v.cells.toList:=fun e h1 h2=>by
    subst e;rw [h2];exact AV.relL_cons.2 ⟨v,[],rfl,h1,AV.relL_nil.2 rfl⟩
  cases a <;> simp only [UG,reduceCtorEq,Option.some.injEq] at h
  case agg=>subst h;simp only [AV.rel] at hr;obtain ⟨vs,rfl,h2⟩:=hr;exact h2
  all_goals
    refine one h.symm hr ?_
    simp only [AV.rel] at hr
    first
      | (subst hr;rfl)
      | (obtain ⟨_,rfl,_⟩:=hr;rfl)
      | (obtain ⟨_,_,_,rfl⟩:=hr;rfl)
      | (obtain ⟨_,_,_,_,_,_,rfl,_⟩:=hr;rfl)
      | (obtain ⟨_,_,rfl⟩:=hr;rfl)
      | (obtain ⟨_,_,rfl,_⟩:=hr;rfl)
omit hT in
theorem Qc4 {a:AV} {v:Value} (h:a.one=true) (hr:a.rel μ v):v.oneCell'=true:=by
  cases a <;> simp only [AV.one,Bool.false_eq_true] at h <;> simp only [AV.rel] at hr
  all_goals first
      | (subst hr;rfl)
      | (obtain ⟨_,rfl,_⟩:=hr;rfl)
      | (obtain ⟨_,_,_,rfl⟩:=hr;rfl)
      | (obtain ⟨_,_,_,_,_,_,rfl,_⟩:=hr;rfl)
      | (obtain ⟨_,_,rfl⟩:=hr;rfl)
      | (obtain ⟨_,_,rfl,_⟩:=hr;rfl)
omit hT in
theorem Nt (v:Value):(Qau v).rel μ v:=by
  unfold Qau;split <;> simp [AV.rel]
omit hT in
theorem Ns:∀ l:List Value,AV.relL μ (Qch l) l
  | []=>AV.relL_nil.2 rfl
  | v::r=>AV.relL_cons_cons.2 ⟨Nt v,Ns r⟩
omit hT in
theorem Du (v:Value):(Qc5 v).rel μ v:=by
  unfold Qc5
  split
  · rename_i cs
    simp only [AV.rel]
    exact ⟨cs,rfl,Ns cs.toList⟩
  · exact Nt v
omit hT in
theorem Kf:∀ {l:List AV},Wy l=true→∀ a∈l,a.one=true
  | [],_,a,ha=>by cases ha
  | x :: t, h, a, ha => by
    unfold Wy at h
    split at h
    · rename_i hx
      cases ha with
      | head=>exact hx
      | tail _ ha=>exact Kf h a ha
    · cases h
def Yld (P:Program) (s:Sem Value) (v:Value):Prop:=∀ w,s.run P w=.ok v w
omit hT in
theorem Di {l:List AV} {vs:List Value} (n:Nat) (h:AV.relL μ l vs):AV.relL μ (l.drop n) (vs.drop n):=by
  refine AV.relL_of_get (by simp [AV.relL_length h]) fun i a ha=>?_
  simp only [List.getElem?_drop] at ha ⊢;exact AV.relL_get h _ _ ha
omit hT in
theorem Dh {l:List AV} {vs:List Value} (n:Nat) (h:AV.relL μ l vs):AV.relL μ (l.take n) (vs.take n):=by
  refine AV.relL_of_get (by simp [AV.relL_length h]) fun i a ha=>?_
  simp only [List.getElem?_take] at ha ⊢
  split at ha
  · rename_i hi;rw [if_pos hi];exact AV.relL_get h _ _ ha
  · cases ha
theorem GC {t : TypeId} {off : Nat} {cs : List AV} {vs : Array Value} {r : AV} (hk : (T t).kd.known = true) (h : Gr (T t).kd.agg (T t).size off cs = some r) (hr : AV.relL μ cs vs.toList) :
    ∃ v,Yld P (part t vs off) v∧r.rel μ v:=by
  unfold Gr at h
  cases ha:(T t).kd.agg with
  | true =>
    rw [ha] at h
    simp only [Vk,Uc] at h
    split at h
    · rename_i l hl
      split at hl
      · injection hl with hl; injection h with h; subst hl h
        refine ⟨.agg (vs.extract off (off+(T t).size)),fun w=>?_,?_⟩
        · simp [part,K9 hT hk,Q6 hT hk,ha]
        · simp only [AV.rel]
          refine ⟨_,rfl,?_⟩
          have:=Dh (T t).size (Di off hr)
          rw [Array.toList_extract,List.extract_eq_take_drop]
          rwa [show off+(T t).size - off=(T t).size from by omega]
      · cases hl
    · cases h
  | false =>
    rw [ha] at h
    simp only [Vn] at h
    obtain ⟨v,hv,hrv⟩:=AV.relL_get hr _ _ h
    refine ⟨v,fun w=>?_,hrv⟩
    rw [Array.getElem?_toList] at hv
    simp [part,K9 hT hk,ha,hv]
omit hT in
theorem ZM (b o n:Nat):(⟨b,o,none⟩:Addr).add n=⟨b,o+n,none⟩:=by
  unfold Addr.add;split <;> simp_all
theorem field_ok {t ft i foff:Nat} {fs:List (Nat × Nat)} {a r:AV} {v:Value} (ht:(T t).kd=.struct fs) (hi:fs[i]?=some (foff,ft)) (hk:(T ft).kd.known=true)
    (h:QaU (T ft).kd.agg (T ft).size foff a=some r) (hr:a.rel μ v):∃ x,Yld P (Instr.field t v i) x∧r.rel μ x:=by
  obtain ⟨d,h1,fields,rfl,h3⟩:=QJ hT ht rfl
  unfold QaU at h
  split at h
  · rename_i cs
    simp only [AV.rel] at hr
    obtain ⟨vs,rfl,hrl⟩:=hr
    obtain ⟨x,hx,hxr⟩:=GC hT hk h hrl
    rw [h3,List.getElem?_map,Option.map_eq_some_iff] at hi
    obtain ⟨f,hf,hfe⟩:=hi
    rw [Array.getElem?_toList] at hf
    injection hfe with e1 e2
    refine ⟨x,fun w=>?_,hxr⟩
    have:=hx w
    simp only [Instr.field,Sem.run_bind,run_underlying h1,Result.andThen_ok,hf,asAgg,Sem.run_pure,e1,e2]
    exact this
  · cases h
theorem fieldAddr_ok {t ft i foff:Nat} {fs:List (Nat × Nat)} {a r:AV} {v:Value} (ht:(T t).kd=.struct fs) (hi:fs[i]?=some (foff,ft)) (hk:(T ft).kd.known=true) (hz:(T ft).size≠0)
    (h:UJ foff a=some r) (hr:a.rel μ v):∃ x,Yld P (Instr.fieldAt t v i) x∧r.rel μ x:=by
  obtain ⟨d,h1,fields,rfl,h3⟩:=QJ hT ht rfl
  unfold UJ at h
  split at h
  · rename_i id off
    injection h with h;subst h
    simp only [AV.rel] at hr
    obtain ⟨b,dd,hm,rfl⟩:=hr
    rw [h3,List.getElem?_map,Option.map_eq_some_iff] at hi
    obtain ⟨f,hf,hfe⟩:=hi
    rw [Array.getElem?_toList] at hf
    injection hfe with e1 e2
    refine ⟨.pointer (some ⟨b,dd+off+foff,none⟩),fun w=>?_,?_⟩
    · simp only [Instr.fieldAt,Sem.run_bind,run_underlying h1,Result.andThen_ok,hf,Instr.sureAddr,Sem.run_pure,fieldPlace,e1,e2,Q6 hT hk,hz,if_false,ZM]
    · simp only [AV.rel];exact ⟨b,dd,hm,by simp [Nat.add_assoc]⟩
  · rename_i id off
    injection h with h;subst h
    simp only [AV.rel] at hr
    subst hr
    rw [h3,List.getElem?_map,Option.map_eq_some_iff] at hi
    obtain ⟨f,hf,hfe⟩:=hi
    rw [Array.getElem?_toList] at hf
    injection hfe with e1 e2
    refine ⟨.pointer (some ⟨id,off+foff,none⟩),fun w=>?_,?_⟩
    · simp only [Instr.fieldAt,Sem.run_bind,run_underlying h1,Result.andThen_ok,hf,Instr.sureAddr,Sem.run_pure,fieldPlace,e1,e2,Q6 hT hk,hz,if_false,ZM]
    · simp only [AV.rel];rfl
  · cases h
theorem indexAddr_ok {t e : Nat} {a i r : AV} {v vi : Value} (ht : (T t).kd = .slice e) (hk : (T e).kd.known = true)
    (h:Vw (T e).size a i=some r) (hr:a.rel μ v) (hri:i.rel μ vi):∃ x,Yld P (Instr.indexAt t v vi) x∧r.rel μ x:=by
  obtain ⟨d,h1,rfl⟩:=QJ hT ht rfl
  unfold Vw at h
  split at h
  · rename_i id off len cap es ex k n
    rw [Str.brec,seqN_eq] at h
    split at h
    · rename_i hlt; rw [QH] at hlt
      injection h with h;subst h
      simp only [AV.rel] at hr hri
      obtain ⟨b,dd,c,o,q,hm,rfl,hodd,ho,hc,_,hle,_⟩:=hr
      subst hri
      have ho:=ho (by omega)
      subst ho
      obtain rfl:=hodd.resolve_right (by omega)
      refine ⟨.pointer (some ⟨b,dd+off+n * (T e).size,none⟩),fun w=>?_,?_⟩
      · have hn : (0 : Int) ≤ Int.ofNat n ∧ Int.ofNat n < (len : Int) := ⟨Int.natCast_nonneg n, by show (n : Int) < _; omega⟩
        have hn2:(Int.ofNat n).toNat=n:=rfl
        simp only [Instr.indexAt,asIntOf,Sem.run_bind,Sem.run_pure,run_underlying h1,Result.andThen_ok,Bool.and_false,Q6 hT hk,hn,hn2,and_self,if_true,ZM]
      · simp only [AV.rel];exact ⟨b,dd,hm,by simp [Nat.add_assoc]⟩
    · cases h
  · cases h
theorem indexArrAddr_ok {t e n : Nat} {a i r : AV} {v vi : Value} (ht : (T t).kd = .arr n e) (hk : (T e).kd.known = true)
    (h:YV n (T e).size a i=some r) (hr:a.rel μ v) (hri:i.rel μ vi):∃ x,Yld P (Instr.indexAt t v vi) x∧r.rel μ x:=by
  obtain ⟨d,h1,rfl⟩:=QJ hT ht rfl
  unfold YV at h
  split at h
  · rename_i id off k m
    rw [Str.brec,seqN_eq] at h
    split at h
    · rename_i hlt; rw [QH] at hlt
      injection h with h;subst h
      simp only [AV.rel] at hr hri
      obtain ⟨b,dd,hm,rfl⟩:=hr
      subst hri
      refine ⟨.pointer (some ⟨b,dd+off+m * (T e).size,none⟩),fun w=>?_,?_⟩
      · have hn : (0 : Int) ≤ Int.ofNat m ∧ Int.ofNat m < (n : Int) := ⟨Int.natCast_nonneg m, by show (m : Int) < _; omega⟩
        have hn2:(Int.ofNat m).toNat=m:=rfl
        simp only [Instr.indexAt,asIntOf,Sem.run_bind,Sem.run_pure,run_underlying h1,Result.andThen_ok,Instr.sureAddr,Q6 hT hk,hn,hn2,and_self,if_true,ZM]
      · simp only [AV.rel];exact ⟨b,dd,hm,by simp [Nat.add_assoc]⟩
    · cases h
  · rename_i id off k m
    rw [Str.brec,seqN_eq] at h
    split at h
    · rename_i hlt; rw [QH] at hlt
      injection h with h;subst h
      simp only [AV.rel] at hr hri
      subst hr hri
      refine ⟨.pointer (some ⟨id,off+m * (T e).size,none⟩),fun w=>?_,?_⟩
      · have hn : (0 : Int) ≤ Int.ofNat m ∧ Int.ofNat m < (n : Int) := ⟨Int.natCast_nonneg m, by show (m : Int) < _; omega⟩
        have hn2:(Int.ofNat m).toNat=m:=rfl
        simp only [Instr.indexAt,asIntOf,Sem.run_bind,Sem.run_pure,run_underlying h1,Result.andThen_ok,Instr.sureAddr,Q6 hT hk,hn,hn2,and_self,if_true,ZM]
      · simp only [AV.rel];rfl
    · cases h
  · cases h
omit hT in
theorem str_get {s:ByteArray} {i:Nat} (h:i < s.size):∃ b:UInt8,s[i]?=some b∧(Str.of s.data.toList).get i=b.toNat:=by
  have h':i < s.data.toList.length:=h
  refine ⟨s.data.toList[i],?_,Str.get_of _ _ h'⟩
  rw [getElem?_pos s i h]
  rfl
theorem indexStr_ok {t : Nat} {a i r : AV} {v vi : Value} (ht : (T t).kd = .str)
    (h:Uk a i=some r) (hr:a.rel μ v) (hri:i.rel μ vi):∃ x,Yld P (Instr.index t v vi) x∧r.rel μ x:=by
  obtain ⟨d,h1,rfl⟩:=QJ hT ht rfl
  unfold Uk at h
  split at h
  · rename_i s k n
    rw [Str.brec,seqN_eq] at h
    split at h
    · rename_i hlt; rw [QH] at hlt
      injection h with h;subst h
      simp only [AV.rel] at hr hri
      obtain ⟨b,rfl,rfl⟩:=hr
      subst hri
      obtain ⟨c,hc,hcg⟩:=str_get (s:=b) (i:=n) hlt
      refine ⟨.int .u8 c.toNat,fun w=>?_,?_⟩
      · have hn : (0 : Int) ≤ Int.ofNat n := Int.natCast_nonneg n
        have hn2:(Int.ofNat n).toNat=n:=rfl
        simp only [Instr.index,asIntOf,Sem.run_bind,Sem.run_pure,run_underlying h1,Result.andThen_ok,hn,hn2,if_true,hc]
      · simp only [AV.rel];rw [hcg];rfl
    · cases h
  · cases h
theorem indexArr_ok {t e n:Nat} {a i r:AV} {v vi:Value} (ht:(T t).kd=.arr n e) (hk:(T e).kd.known=true)
    (h:JJ n (T e).kd.agg (T e).size a i=some r) (hr:a.rel μ v) (hri:i.rel μ vi):∃ x,Yld P (Instr.index t v vi) x∧r.rel μ x:=by
  obtain ⟨d,h1,rfl⟩:=QJ hT ht rfl
  unfold JJ at h
  split at h
  · rename_i cs k m
    rw [Str.brec] at h
    split at h
    · rename_i hlt; rw [QH] at hlt
      simp only [AV.rel] at hr hri
      obtain ⟨vs,rfl,hrl⟩:=hr
      subst hri
      obtain ⟨x,hx,hxr⟩:=GC hT hk h hrl
      refine ⟨x,fun w=>?_,hxr⟩
      have hn:(0:Int)≤Int.ofNat m∧Int.ofNat m < (n:Int):=⟨Int.natCast_nonneg m,by show (m:Int) < _;omega⟩
      have hn2:(Int.ofNat m).toNat=m:=rfl
      have:=hx w
      simp only [Instr.index,asIntOf,Sem.run_bind,Sem.run_pure,run_underlying h1,Result.andThen_ok,hn,hn2,and_self,if_true,Q6 hT hk]
      exact this
    · cases h
  · cases h
def Wr (μ:Mu):Option AV→Option Value→Prop
  | none,none=>True
  | some a,some v=>a.rel μ v
  | _,_=>False
omit hT in
theorem ZY {d n : Nat} {x : Option AV} {y : Option Value} (h : bnd d x = some n) (hr : Wr μ x y) : (y = none ∧ n = d) ∨ (∃ k, y = some (.int k (Int.ofNat n))) := by
  cases x with
  | none => cases y with
    | none=>simp [bnd] at h;exact .inl ⟨rfl,h.symm⟩
    | some v=>cases hr
  | some a =>
    cases y with
    | none=>cases hr
    | some v =>
      unfold bnd at h
      split at h
      · rename_i e;cases e
      · rename_i k m e
        injection e with e;subst e;injection h with h;subst h
        simp only [Wr,AV.rel] at hr;exact .inr ⟨k,by rw [hr]⟩
      · cases h
omit hT in
theorem Yw {k:IntKind} {n y:Nat} {code:BoundsCode} {w:World} (h:n≤y):(Instr.sliceBound (.int k (Int.ofNat n)) y code).run P w=.ok n w:=by
  have h0:(0:Int)≤Int.ofNat n∧Int.ofNat n≤(y:Int):=⟨Int.natCast_nonneg n,by show (n:Int)≤_;omega⟩
  have h2:(Int.ofNat n).toNat=n:=rfl
  simp only [Instr.sliceBound,asIntOf,Sem.run_bind,Sem.run_pure,Result.andThen_ok,h0,and_self,if_true,h2]
omit hT in
theorem Yn {isSlice:Bool} {len cap l h:Nat} {x y:Option Value} {w:World} (hx:(x=none∧l=0)∨∃ k,x=some (.int k (Int.ofNat l))) (hy:(y=none∧h=len)∨∃ k,y=some (.int k (Int.ofNat h)))
    (h1:l≤h) (h2:h≤cap):(Instr.sliceBounds isSlice len cap x y none).run P w=.ok (l,h,cap) w:=by
  rcases hx with ⟨rfl,rfl⟩ | ⟨k,rfl⟩ <;> rcases hy with ⟨rfl,rfl⟩ | ⟨k',rfl⟩
  all_goals simp only [Instr.sliceBounds,Sem.run_bind,Sem.run_pure,Result.andThen_ok,Yw h1,Yw h2]
omit hT in
theorem extract_toList (s:ByteArray) (l h:Nat):(s.extract l h).data.toList=(s.data.toList.take h).drop l:=by
  rw [ByteArray.data_extract,Array.toList_extract,List.extract_eq_take_drop,List.drop_take]
theorem sliceStr_ok {t : Nat} {a r : AV} {v : Value} {lo hi : Option AV} {x y : Option Value} (ht : (T t).kd = .str)
    (h:Ui a lo hi=some r) (hr:a.rel μ v) (hx:Wr μ lo x) (hy:Wr μ hi y):∃ z,Yld P (Instr.sliceAt t v x y none) z∧r.rel μ z:=by
  obtain ⟨d,h1,rfl⟩:=QJ hT ht rfl
  unfold Ui at h
  split at h
  · rename_i s
    split at h
    · rename_i l hh hl hhi
      simp only [Str.brec] at h
      split at h
      · rename_i c2; rw [Qk] at c2
        split at h
        · rename_i c1; rw [Qk] at c1
          injection h with h;subst h
          simp only [AV.rel] at hr
          obtain ⟨b,rfl,rfl⟩:=hr
          have c2':hh≤b.size:=c2
          refine ⟨.string (b.extract l hh),fun w=>?_,?_⟩
          · have := Yn (P := P) (w := w) (isSlice := false) (len := b.size) (cap := b.size) (ZY hl hx) (ZY hhi hy) c1 c2'
            simp only [Instr.sliceAt,Sem.run_bind,run_underlying h1,Result.andThen_ok,Instr.slice,Option.isSome_none,Bool.false_eq_true,if_false,this,Sem.run_pure]
          · simp only [AV.rel]
            exact ⟨_,rfl,by rw [extract_toList,Str.sub_of _ _ _ c1 c2]⟩
        · cases h
      · cases h
    · cases h
  · cases h
theorem sliceSl_ok {t e : Nat} {a r : AV} {v : Value} {lo hi : Option AV} {x y : Option Value} (ht : (T t).kd = .slice e) (hk : (T e).kd.known = true)
    (h:Vv (T e).size a lo hi none=some r) (hr:a.rel μ v) (hx:Wr μ lo x) (hy:Wr μ hi y):∃ z,Yld P (Instr.sliceAt t v x y none) z∧r.rel μ z:=by
  obtain ⟨d,h1,rfl⟩:=QJ hT ht rfl
  unfold Vv at h
  split at h
  · rename_i id off len cap es ex
    split at h
    · rename_i l hh hl hhi _
      simp only [Str.brec,seqN_eq] at h
      split at h
      · rename_i c2; rw [Qk] at c2
        split at h
        · rename_i c1; rw [Qk] at c1
          split at h
          rotate_left
          · cases h
          rename_i c4
          rw [Nat.beq_eq] at c4;subst c4
          simp only [AV.rel] at hr
          obtain ⟨b,dd,c,o,q,hm,rfl,hodd,ho,hc,hex,hle,hdo,hsz⟩:=hr
          rcases hodd with rfl | h0
          rotate_left
          · subst h0
            have l0:l=0:=by omega
            have hh0:hh=0:=by omega
            have cap0:cap=0:=by omega
            have len0:len=0:=by omega
            subst l0 hh0 cap0 len0
            refine ⟨.slice (some q) 0 0,fun w=>?_,?_⟩
            · have := Yn (P := P) (w := w) (isSlice := true) (len := 0) (cap := 0) (ZY hl hx) (ZY hhi hy) c1 (by omega)
              simp only [Instr.sliceAt,Sem.run_bind,run_underlying h1,Result.andThen_ok,Instr.slice,this,Sem.run_pure,Q6 hT hk]
              simp
            · have h : some (AV.slice id off 0 0 (T e).size ex) = some r := h
              injection h with h;subst h
              simp only [AV.rel]
              exact ⟨b,dd,0,o,q,hm,rfl,.inr rfl,fun hp=>absurd hp (by omega),Nat.le_refl _,fun _=>rfl,Nat.le_refl _,hdo,hsz⟩
          have hmul:l * (T e).size+(c - l) * (T e).size=c * (T e).size:=by rw [← Nat.add_mul];congr 1;omega
          have hmul2:(c - l) * (T e).size≤c * (T e).size:=Nat.mul_le_mul_right _ (by omega)
          refine ⟨.slice (if c=l then some ⟨b,o,none⟩ else some ⟨b,o+l * (T e).size,none⟩) (hh - l) (c - l),fun w=>?_,?_⟩
          · have := Yn (P := P) (w := w) (isSlice := true) (len := len) (cap := c) (ZY hl hx) (ZY hhi hy) c1 (by omega)
            simp only [Instr.sliceAt,Sem.run_bind,run_underlying h1,Result.andThen_ok,Instr.slice,this,Sem.run_pure,Q6 hT hk]
            simp only [Option.map_some,ZM]
          · split at h
            · rename_i c3; rw [Nat.beq_eq] at c3
              injection h with h;subst h
              simp only [AV.rel]
              split
              · exact ⟨b,dd,_,_,_,hm,rfl,.inl rfl,fun hp=>absurd hp (by omega),by omega,fun he=>by have:=hex he;omega,by show hh - l≤0;omega,hdo,by show o+(c - l) * (T e).size≤_;omega⟩
              · exact ⟨b,dd,_,_,_,hm,rfl,.inl rfl,fun hp=>absurd hp (by omega),by omega,fun he=>by have:=hex he;omega,by show hh - l≤0;omega,by omega,by show o+l * (T e).size+(c - l) * (T e).size≤_;omega⟩
            · rename_i c3; rw [Nat.beq_eq] at c3
              injection h with h;subst h
              have:c≠l:=by omega
              simp only [AV.rel,this,if_false]
              exact ⟨b,dd,_,_,_,hm,rfl,.inl rfl,fun hp=>by have:=ho (by omega);subst this;show dd+off+_=dd+(off+_);rw [Nat.add_assoc];rfl,by show cap - l≤c - l;omega,fun he=>by have:=hex he;show c - l=cap - l;omega,by show hh - l≤cap - l;omega,by omega,by show o+l * (T e).size+(c - l) * (T e).size≤_;omega⟩
        · cases h
      · cases h
    · cases h
  · split at h
    · rename_i hl hhi _
      injection h with h;subst h
      simp only [AV.rel] at hr
      subst hr
      refine ⟨.slice none 0 0,fun w=>?_,by simp [AV.rel]⟩
      have:=Yn (P:=P) (w:=w) (isSlice:=true) (len:=0) (cap:=0) (ZY hl hx) (ZY hhi hy) (Nat.le_refl _) (Nat.le_refl _)
      simp only [Instr.sliceAt,Sem.run_bind,run_underlying h1,Result.andThen_ok,Instr.slice,this,Sem.run_pure,Q6 hT hk]
      simp
    · cases h
  · cases h
omit hT in
theorem V2 {isSlice:Bool} {len cap l h m:Nat} {x:Option Value} {k k':IntKind} {w:World} (hx:(x=none∧l=0)∨∃ k,x=some (.int k (Int.ofNat l)))
    (h1:l≤h) (h2:h≤m) (h3:m≤cap):(Instr.sliceBounds isSlice len cap x (some (.int k (Int.ofNat h))) (some (.int k' (Int.ofNat m)))).run P w=.ok (l,h,m) w:=by
  rcases hx with ⟨rfl,rfl⟩ | ⟨k,rfl⟩
  all_goals simp only [Instr.sliceBounds,Sem.run_bind,Sem.run_pure,Result.andThen_ok,Yw h1,Yw h2,Yw h3]
theorem slice3_ok {t e : Nat} {a r mx : AV} {v z0 : Value} {lo hi : Option AV} {x y : Option Value} (ht : (T t).kd = .slice e) (hk : (T e).kd.known = true)
    (h:JH (T e).size a lo hi mx=some r) (hr:a.rel μ v) (hx:Wr μ lo x) (hy:Wr μ hi y) (hz:mx.rel μ z0):∃ z,Yld P (Instr.sliceAt t v x y (some z0)) z∧r.rel μ z:=by
  obtain ⟨d,h1,rfl⟩:=QJ hT ht rfl
  unfold JH at h
  split at h
  · rename_i id off len cap es ex
    split at h
    · rename_i l kh hh km m hl
      simp only [Str.brec,seqN_eq] at h
      split at h
      rotate_left
      · cases h
      rename_i c3;rw [Qk] at c3
      split at h
      rotate_left
      · cases h
      rename_i c2;rw [Qk] at c2
      split at h
      rotate_left
      · cases h
      rename_i c1;rw [Qk] at c1
      split at h
      rotate_left
      · cases h
      rename_i c4
      rw [Nat.beq_eq] at c4;subst c4
      simp only [AV.rel] at hr hz
      subst hz
      obtain ⟨b,dd,c,o,q,hm,rfl,hodd,ho,hc,hex,hle,hdo,hsz⟩:=hr
      have hy':y=some (.int kh (Int.ofNat hh)):=by
        cases y with
        | none=>simp [Wr] at hy
        | some y=>simp only [Wr,AV.rel] at hy;rw [hy]
      subst hy'
      rcases hodd with rfl | h0
      rotate_left
      · subst h0
        have l0:l=0:=by omega
        have hh0:hh=0:=by omega
        have m0:m=0:=by omega
        have cap0:cap=0:=by omega
        have len0:len=0:=by omega
        subst l0 hh0 m0 cap0 len0
        refine ⟨.slice (some q) 0 0,fun w=>?_,?_⟩
        · have := V2 (P := P) (w := w) (isSlice := true) (len := 0) (cap := 0) (k := kh) (k' := km) (ZY hl hx) c1 c2 (Nat.le_refl _)
          simp only [Instr.sliceAt,Sem.run_bind,run_underlying h1,Result.andThen_ok,Instr.slice,this,Sem.run_pure,Q6 hT hk]
          simp
        · have h : some (AV.slice id off 0 0 (T e).size true) = some r := h
          injection h with h;subst h
          simp only [AV.rel]
          exact ⟨b,dd,0,o,q,hm,rfl,.inr rfl,fun hp=>absurd hp (by omega),Nat.le_refl _,fun _=>rfl,Nat.le_refl _,hdo,hsz⟩
      have hmul:l * (T e).size+(m - l) * (T e).size=m * (T e).size:=by rw [← Nat.add_mul];congr 1;omega
      have hmul2:m * (T e).size≤c * (T e).size:=Nat.mul_le_mul_right _ (by omega)
      refine ⟨.slice (if m=l then some ⟨b,o,none⟩ else some ⟨b,o+l * (T e).size,none⟩) (hh - l) (m - l),fun w=>?_,?_⟩
      · have := V2 (P := P) (w := w) (isSlice := true) (len := len) (cap := c) (k := kh) (k' := km) (ZY hl hx) c1 c2 (by omega : m ≤ c)
        simp only [Instr.sliceAt,Sem.run_bind,run_underlying h1,Result.andThen_ok,Instr.slice,this,Sem.run_pure,Q6 hT hk]
        simp only [Option.map_some,ZM]
      · split at h
        · rename_i c5; rw [Nat.beq_eq] at c5
          injection h with h;subst h
          simp only [AV.rel,c5,if_true]
          exact ⟨b,dd,_,_,_,hm,rfl,.inl rfl,fun hp=>absurd hp (by omega),by omega,fun _=>by omega,by show hh - l≤0;omega,hdo,by show o+(l - l) * (T e).size≤_;rw [Nat.sub_self,Nat.zero_mul];omega⟩
        · rename_i c5; rw [Nat.beq_eq] at c5
          injection h with h;subst h
          simp only [AV.rel,c5,if_false]
          exact ⟨b,dd,_,_,_,hm,rfl,.inl rfl,fun hp=>by have:=ho (by omega);subst this;show dd+off+_=dd+(off+_);rw [Nat.add_assoc];rfl,Nat.le_refl _,fun _=>rfl,by show hh - l≤m - l;omega,by omega,by show o+l * (T e).size+(m - l) * (T e).size≤_;omega⟩
    · cases h
  · cases h
end
end Go.Am
namespace Go.Am
open Go
section
variable {P:Program} {T:Ty} (hT:YN P T) {μ:Mu}
include hT
omit hT in
theorem beq_bool (a b:Bool):(Bool.rec (Bool.not b) b a:Bool)=(a == b):=by cases a <;> cases b <;> rfl
theorem Qdz (d : Nat) (xs ys : Array Value) (f : Nat) (ih : ∀ t a b r x y, YC T f t a b = some r → AV.rel μ a x → AV.rel μ b y → ∀ w, (Op.equalIn d t x y).run P w = .ok r w) {as bs : List AV} (ha : AV.relL μ as xs.toList) (hb : AV.relL μ bs ys.toList) :
    ∀ (fields:List Field) (r:Bool),(∀ g∈fields,g.name ≠ "_")→YC.eqFs T (YC T f) as bs (fields.map fun g=>(g.offset,g.type))=some r→∀ w,(Op.eqFields d xs ys fields).run P w=.ok r w
  | [],r,_,h,w=>by simp [YC.eqFs] at h;subst h;rfl
  | g :: fields, r, hn, h, w => by
    simp only [List.map_cons,YC.eqFs] at h
    split at h
    · rename_i a b h1 h2
      have hk:(T g.type).kd.known=true:=by
        cases hkd:(T g.type).kd <;> try rfl
        exfalso
        split at h
        · rename_i he; cases f with
          | zero=>simp [YC] at he
          | succ f=>simp [YC,hkd] at he
        · rename_i he; cases f with
          | zero=>simp [YC] at he
          | succ f=>simp [YC,hkd] at he
        · cases h
      obtain ⟨x,hx,hxr⟩:=GC hT hk h1 ha
      obtain ⟨y,hy,hyr⟩:=GC hT hk h2 hb
      have hname:g.name ≠ "_" := hn g (by simp)
      simp only [Op.eqFields,hname,ne_eq,not_false_eq_true,if_true,Sem.run_bind,hx w,hy w,Result.andThen_ok]
      split at h
      · rename_i he
        rw [ih _ _ _ _ _ _ he hxr hyr w]
        simp only [Result.andThen_ok,Bool.not_true,Bool.false_eq_true,if_false]
        exact Qdz d xs ys f ih ha hb fields r (fun g' hg=>hn g' (by simp [hg])) h w
      · rename_i he
        injection h with h;subst h
        rw [ih _ _ _ _ _ _ he hxr hyr w]
        simp
      · cases h
    · cases h
set_option maxHeartbeats 2000000 in
theorem QaM : ∀ (f d : Nat), f ≤ d → ∀ t a b r x y, YC T f t a b = some r → AV.rel μ a x → AV.rel μ b y → ∀ w, (Op.equalIn d t x y).run P w = .ok r w
  | 0,d,_,t,a,b,r,x,y,h,_,_,w=>by simp [YC] at h
  | f+1,0,hd,_,_,_,_,_,_,_,_,_,_=>by omega
  | f + 1, d + 1, hd, t, a, b, r, x, y, h, ha, hb, w => by
    unfold YC at h
    split at h
    case h_1 a b hk=>
      obtain ⟨_,h1,rfl⟩:=QJ hT hk rfl
      injection h with h;subst h;simp only [AV.rel] at ha hb;subst ha hb
      simp [Op.equalIn,run_underlying h1,beq_bool]
    case h_2 k0 k a k' b hk=>
      obtain ⟨_,h1,rfl⟩:=QJ hT hk rfl
      rw [Str.brec] at h;split at h
      · rename_i he; rw [W3] at he; subst he
        injection h with h;subst h;simp only [AV.rel] at ha hb;subst ha hb
        simp [Op.equalIn,run_underlying h1,WV]
      · cases h
    case h_3 a b hk=>
      obtain ⟨_,h1,rfl⟩:=QJ hT hk rfl
      injection h with h;subst h;simp only [AV.rel] at ha hb
      obtain ⟨s,rfl,rfl⟩:=ha;obtain ⟨u,rfl,rfl⟩:=hb
      rw [Str.beq_of]
      simp [Op.equalIn,run_underlying h1,beq_toListBytes,ByteArray.toList_eq]
    case h_19 e i a j b hk=>
      obtain ⟨_,h1,rfl⟩:=QJ hT hk rfl
      split at h
      · rename_i hc
        have hc:((T e).kd.known && (Nat.ble 1 (T e).size && Nat.beq i j))=true:=hc
        simp only [Bool.and_eq_true,Qk,Nat.beq_eq] at hc
        obtain ⟨hk,hz,rfl⟩:=hc
        injection h with h;subst h;simp only [AV.rel] at ha hb
        obtain ⟨c,q,hm,rfl⟩:=ha;obtain ⟨c',q',hm',rfl⟩:=hb
        rw [hm] at hm';injection hm' with hm';injection hm' with e1 e2;subst e1 e2
        have hz':¬ (T e).size=0:=by omega
        have hbe:(({ block:=c,off:=q+a,spot:=none }:Addr) == { block:=c,off:=q+b,spot:=none })=Nat.beq a b:=by
          rw [Bool.eq_iff_iff,beq_iff_eq,Nat.beq_eq]
          constructor
          · intro h;injection h with _ h;omega
          · intro h;rw [h]
        simp [Op.equalIn,run_underlying h1,Q6 hT hk,hz',sameAddr,hbe]
      · cases h
    case h_20 fs xs ys hk=>
      obtain ⟨_,h1,fields,rfl,h3⟩:=QJ hT hk rfl
      split at h
      · rename_i he
        obtain ⟨e1,e2,e3⟩:=(hT t (by rw [hk];rfl)).eqp he
        simp only [AV.rel] at ha hb
        obtain ⟨vs,rfl,ha⟩:=ha;obtain ⟨us,rfl,hb⟩:=hb
        have hfo:P.fieldsOf t=fields:=by simp [Program.fieldsOf,h1]
        rw [run_equalIn_struct w d t vs us (by rw [h1,hfo]) e2,hfo]
        rw [h3] at h
        exact Qdz hT d vs us f (fun t a b r x y h ha hb w=>QaM f d (by omega) t a b r x y h ha hb w) ha hb _ _ (fun g hg=>e3 fields h1 g (by simpa using hg)) h w
      · cases h
    case h_21 tx x' ty y' hk=>
      obtain ⟨_,h1,_,rfl⟩:=QJ hT hk rfl
      simp only [AV.rel] at ha hb
      obtain ⟨vx,rfl,hx⟩:=ha;obtain ⟨vy,rfl,hy⟩:=hb
      split at h
      · rename_i he
        rw [Nat.beq_eq] at he;subst he
        split at h
        · rename_i hs
          have hkn:(T tx).kd.known=true:=by revert hs;cases (T tx).kd <;> simp [Kd.simple,Kd.known]
          obtain ⟨i,hi,hc⟩:=(hT tx hkn).cmp hs
          have:=QaM f d (by omega) tx x' y' r vx vy h hx hy w
          simp [Op.equalIn,run_underlying h1,typeInfo,hi,hc,this]
        · cases h
      · rename_i he
        have hne:tx≠ty:=fun e=>by subst e;rw [Nat.beq_refl] at he;cases he
        injection h with h;subst h
        simp [Op.equalIn,run_underlying h1,hne]
    case h_22=>cases h
    all_goals
      rename_i hk
      first
        | obtain ⟨_,h1,rfl⟩:=QJ hT hk rfl
        | obtain ⟨_,h1,_,rfl⟩:=QJ hT hk rfl
        | obtain ⟨_,h1,_,_,_,rfl⟩:=QJ hT hk rfl
      injection h with h;subst h;simp only [AV.rel] at ha hb
      first
        | subst ha
        | (obtain ⟨_,_,_,rfl⟩:=ha)
        | (obtain ⟨_,rfl,_⟩:=ha)
        | (obtain ⟨_,_,rfl,_⟩:=ha)
        | (obtain ⟨_,_,rfl⟩:=ha)
        | (obtain ⟨_,_,_,_,_,_,rfl,_⟩:=ha)
      first
        | subst hb
        | (obtain ⟨_,_,_,rfl⟩:=hb)
        | (obtain ⟨_,rfl,_⟩:=hb)
        | (obtain ⟨_,_,rfl,_⟩:=hb)
        | (obtain ⟨_,_,rfl⟩:=hb)
        | (obtain ⟨_,_,_,_,_,_,rfl,_⟩:=hb)
      simp [Op.equalIn,run_underlying h1]
end
end Go.Am
namespace Go.Am
open Go
def UE (op:BinOp) (t:TypeId) (ox oy:Operand) (x y:Value):Sem Value:=do eqGuard op t ox oy x y;binOp op t x y
theorem binOp_eql {t:TypeId} {x y:Value} (h1:∀ k m k' n,x=.int k m→y=.int k' n→False) (h2:∀ k m,x≠.float k m) (h3:∀ k m n,x≠.complex k m n) (h4:∀ m n,x=.string m→y=.string n→False) :
    binOp .eql t x y=(do pure (.bool (← Op.equal t x y))):=by
  unfold binOp
  split <;> first | rfl | contradiction | exact (h1 _ _ _ _ rfl rfl).elim | exact (h4 _ _ rfl rfl).elim | (exfalso;simp_all;done)
theorem binOp_neq {t:TypeId} {x y:Value} (h1:∀ k m k' n,x=.int k m→y=.int k' n→False) (h2:∀ k m,x≠.float k m) (h3:∀ k m n,x≠.complex k m n) (h4:∀ m n,x=.string m→y=.string n→False) :
    binOp .neq t x y=(do pure (.bool (!(← Op.equal t x y)))):=by
  unfold binOp
  split <;> first | rfl | contradiction | exact (h1 _ _ _ _ rfl rfl).elim | exact (h4 _ _ rfl rfl).elim | (exfalso;simp_all;done)
theorem con_match (ox oy:Operand):(WO ox=true∨WO oy=true)→((ox matches .const _) || (oy matches .const _))=true:=by
  intro h
  cases ox <;> cases oy <;> first | rfl | (rcases h with h | h <;> cases h)
theorem NG {op : BinOp} {t : TypeId} {ox oy : Operand} {x y : Value} {P : Program} (h1 : x = .nilIface → y = .nilIface → WO ox = true ∨ WO oy = true) (h2 : ∀ a b, x = .agg a → y = .agg b → P.eqGuardType P.depth t = false) (w : World) :
    (eqGuard op t ox oy x y).run P w=.ok () w:=by
  by_cases e1:∃ a b,x=.agg a∧y=.agg b
  · obtain ⟨a, b, rfl, rfl⟩ := e1
    exact run_eqGuard_agg w op t ox oy a b (h2 a b rfl rfl)
  · by_cases e2 : x = .nilIface ∧ y = .nilIface
    · obtain ⟨rfl, rfl⟩ := e2
      have this:=con_match ox oy (h1 rfl rfl)
      unfold eqGuard
      cases op <;> first | rfl | (simp only [Bool.not_true,Bool.false_eq_true,if_false];exact (congrArg (fun s=>Sem.run P s w) (if_pos this)).trans rfl)
    · unfold eqGuard
      cases op <;> first
        | rfl
        | (simp only [Bool.not_true,Bool.false_eq_true,if_false]
           split
           · exact absurd ⟨rfl,rfl⟩ e2
           · exact absurd ⟨_,_,rfl,rfl⟩ e1
           · rfl)
section
variable {P:Program} {T:Ty} (hT:YN P T) {μ:Mu}
include hT
omit hT in
theorem less_or (a : List UInt8) : ∀ b, (Op.bytesLess a b || a == b) = !(Op.bytesLess b a) := by
  induction a with
  | nil=>intro b;cases b <;> simp [Op.bytesLess]
  | cons x a ih =>
    intro b
    cases b with
    | nil=>simp [Op.bytesLess]
    | cons y b =>
      have:=ih b
      simp only [Op.bytesLess,List.cons_beq_cons]
      rcases Nat.lt_trichotomy x.toNat y.toNat with h | h | h
      · have h1 : x < y := UInt8.lt_iff_toNat_lt.2 h
        have h2:¬ y < x:=by rw [UInt8.lt_iff_toNat_lt];omega
        have h3:(y == x)=false:=by rw [beq_eq_false_iff_ne];intro e;rw [e] at h;omega
        simp [h1,h2,h3]
      · have e := UInt8.toNat_inj.1 h
        subst e
        have h2:¬ x < x:=by rw [UInt8.lt_iff_toNat_lt];omega
        simpa [h2] using this
      · have h1 : y < x := UInt8.lt_iff_toNat_lt.2 h
        have h2:¬ x < y:=by rw [UInt8.lt_iff_toNat_lt];omega
        have h3:(x == y)=false:=by rw [beq_eq_false_iff_ne];intro e;rw [e] at h;omega
        simp [h1,h2,h3]
omit hT in
theorem QaQ {op : BinOp} {t : TypeId} {a b : Str} {r : AV} {x y : Value} (h : QbZ op a b = some r) (ha : AV.rel μ (.str a) x) (hb : AV.rel μ (.str b) y) : ∃ v, Yld P (binOp op t x y) v ∧ r.rel μ v := by
  simp only [AV.rel] at ha hb
  obtain ⟨s,rfl,rfl⟩:=ha
  obtain ⟨u,rfl,rfl⟩:=hb
  have run:∀ {v:Value},(Op.stringOp op s u)=pure v→op≠.shl→op≠.shr→Yld P (binOp op t (.string s) (.string u)) v:=fun e n1 n2 w=>by
    unfold binOp
    split <;> first | (rename_i e';cases e';done) | skip
    all_goals first | (rw [e];rfl) | simp_all
  unfold QbZ at h
  split at h
  case h_1=>
    rw [Str.brec] at h;split at h
    · rename_i hl; rw [Qk] at hl
      injection h with h;subst h
      have hl':s.size+u.size≤9223372036854775807:=hl
      refine ⟨.string (s++u),run ?_ (by simp) (by simp),?_⟩
      · have : ¬ (((s.size + u.size : Nat) : Int) > IntKind.i64.max) := by
          have:IntKind.i64.max=9223372036854775807:=by simp [IntKind.max,IntKind.signed,IntKind.bits]
          rw [this];omega
        simp only [Op.stringOp,this,if_false]
      · simp only [AV.rel]
        exact ⟨_,rfl,(Str.cat_of _ _).trans (by simp)⟩
    · cases h
  case h_8=>cases h
  all_goals
    injection h with h;subst h
    refine ⟨_,run (by simp only [Op.stringOp];rfl) (by simp) (by simp),?_⟩
    simp only [AV.rel,Str.beq_of,Str.lt_of,ByteArray.toList_eq,less_or,Bool.not_not]
omit hT in
theorem eqAV_junk {f:Nat} {t:Nat} {b:AV} {q:Bool} (h:YC T f t .junk b=some q):False:=by
  cases f with
  | zero=>cases h
  | succ f =>
    unfold YC at h
    split at h <;> first | contradiction | cases h
omit hT in
theorem rel_not_float {a:AV} {x:Value} (ha:AV.rel μ a x) (hj:a≠.junk):(∀ k m,x≠.float k m)∧(∀ k m n,x≠.complex k m n):=by
  constructor <;> (intros;intro e;subst e;cases a <;> simp [AV.rel] at ha hj)
omit hT in
theorem QcV {a:AV} {k:IntKind} {m:Int} (ha:AV.rel μ a (.int k m)) (hj:a≠.junk):a=.int k m:=by
  cases a <;> simp_all [AV.rel]
omit hT in
theorem QcU {a:AV} {s:ByteArray} (ha:AV.rel μ a (.string s)) (hj:a≠.junk):a=.str (Str.of s.data.toList):=by
  cases a <;> simp [AV.rel] at ha hj
  rw [ha]
omit hT in
theorem Qbj {a:AV} (ha:AV.rel μ a .nilIface) (hj:a≠.junk):a=.nili:=by
  cases a <;> simp_all [AV.rel]
omit hT in
theorem QcW {a:AV} {vs:Array Value} (ha:AV.rel μ a (.agg vs)) (hj:a≠.junk):∃ cs,a=.agg cs:=by
  cases a <;> simp [AV.rel] at ha hj
  exact ⟨_,rfl⟩
omit hT in
theorem eqAV_junk2 {f:Nat} {t:Nat} {a:AV} {q:Bool} (h:YC T f t a .junk=some q):False:=by
  cases f with
  | zero=>cases h
  | succ f =>
    unfold YC at h
    split at h <;> first | contradiction | cases h
theorem eqAV_agg {f:Nat} {t:Nat} {xs ys:List AV} {q:Bool} (h:YC T f t (.agg xs) (.agg ys)=some q):P.eqGuardType P.depth t=false:=by
  cases f with
  | zero=>cases h
  | succ f =>
    unfold YC at h
    split at h <;> first | contradiction | (cases h;done) | skip
    rename_i hk _ _
    split at h
    · rename_i he;exact ((hT t (by rw [hk];rfl)).eqp he).1
    · cases h
theorem K1 {op:BinOp} {t:TypeId} {ox oy:Operand} {a b:AV} {q:Bool} {x y:Value} (h:YC T 20 t a b=some q) (ha:AV.rel μ a x) (hb:AV.rel μ b y)
    (hi:∀ k m k' n,a=.int k m→b=.int k' n→False) (hs:∀ m n,a=.str m→b=.str n→False) (hn:a=.nili→b=.nili→WO ox=true∨WO oy=true) :
    (op=.eql→Yld P (UE op t ox oy x y) (.bool q))∧(op=.neq→Yld P (UE op t ox oy x y) (.bool !q)):=by
  have ja:a≠.junk:=fun e=>by subst e;exact eqAV_junk h
  have jb:b≠.junk:=fun e=>by subst e;exact eqAV_junk2 h
  have hrun:=fun w=>QaM (P:=P) (μ:=μ) hT 20 10000 (by omega) t a b q x y h ha hb w
  obtain ⟨f1,f2⟩:=rel_not_float ha ja
  have n1:∀ k m k' n,x=.int k m→y=.int k' n→False:=fun k m k' n e1 e2=>by
    subst e1 e2;exact hi _ _ _ _ (QcV ha ja) (QcV hb jb)
  have n2:∀ m n,x=.string m→y=.string n→False:=fun m n e1 e2=>by
    subst e1 e2;exact hs _ _ (QcU ha ja) (QcU hb jb)
  have g:∀ w,(eqGuard op t ox oy x y).run P w=.ok () w:=NG
    (fun e1 e2=>by subst e1 e2;exact hn (Qbj ha ja) (Qbj hb jb))
    (fun _ _ e1 e2=>by
      subst e1 e2
      obtain ⟨_,rfl⟩:=QcW ha ja;obtain ⟨_,rfl⟩:=QcW hb jb
      exact eqAV_agg hT h)
  constructor
  · rintro rfl w
    simp only [UE,Sem.run_bind,g w,Result.andThen_ok,binOp_eql n1 f1 f2 n2,Op.equal,Op.maxDepth,hrun w,Sem.run_pure]
  · rintro rfl w
    simp only [UE,Sem.run_bind,g w,Result.andThen_ok,binOp_neq n1 f1 f2 n2,Op.equal,Op.maxDepth,hrun w,Sem.run_pure]
omit hT in
theorem Zk {k:IntKind} {n:Int}:AV.rel μ (.int k n) (.int k n):=by simp [AV.rel]
theorem bin_ok {op : BinOp} {t : TypeId} {ox oy : Operand} {con : Bool} {a b r : AV} {x y : Value} (hc : con = true → WO ox = true ∨ WO oy = true) (h : Kk T op t con a b = some r) (ha : AV.rel μ a x) (hb : AV.rel μ b y) :
    ∃ v,Yld P (UE op t ox oy x y) v∧r.rel μ v:=by
  have gi:∀ {k m k' n},∀ w,(eqGuard op t ox oy (.int k m) (.int k' n)).run P w=.ok () w:=fun w=>NG (fun e=>(by cases e)) (fun _ _ e=>(by cases e)) w
  have gs:∀ {m n},∀ w,(eqGuard op t ox oy (.string m) (.string n)).run P w=.ok () w:=fun w=>NG (fun e=>(by cases e)) (fun _ _ e=>(by cases e)) w
  have boolRel:∀ {q:Bool},AV.rel μ (.bool q) (.bool q):=by simp [AV.rel]
  unfold Kk at h
  split at h
  case h_1=>
    obtain ⟨q,hq,rfl⟩:=Option.map_eq_some_iff.1 h
    simp only [AV.rel] at ha hb;subst ha hb
    refine ⟨_,fun w=>?_,Zk⟩
    simp only [UE,Sem.run_bind,gi w,Result.andThen_ok,shlI_ok P w t hq]
  case h_2=>
    obtain ⟨q,hq,rfl⟩:=Option.map_eq_some_iff.1 h
    simp only [AV.rel] at ha hb;subst ha hb
    refine ⟨_,fun w=>?_,Zk⟩
    simp only [UE,Sem.run_bind,gi w,Result.andThen_ok,shrI_ok P w t hq]
  case h_3=>
    rw [Str.brec] at h;split at h
    · rename_i hk; rw [W3] at hk; subst hk
      simp only [AV.rel] at ha hb;subst ha hb
      obtain ⟨v,_,hv⟩:=QdI P (default:World) t h
      have same:∀ w,(binOp op t _ _).run P w=.ok v w:=fun w=>by
        obtain ⟨v',h1,h2⟩:=QdI P w t h
        have e1:=hv J8;have e2:=h2 J8
        have:v'=v:=by
          revert e1 e2
          cases r <;> simp only [AV.rel] <;> intro e1 e2 <;> first | (subst e1 e2;rfl) | skip
          all_goals (simp only [Qcu] at h;split at h <;> first | cases h | (injection h with h;cases h) | skip)
          all_goals first
            | (rw [Str.brec] at h;split at h <;> first | cases h | (injection h with h;cases h))
            | (obtain ⟨_,_,h⟩:=Option.map_eq_some_iff.1 h;cases h)
        rw [← this];exact h1
      exact ⟨v,fun w=>by simp only [UE,Sem.run_bind,gi w,Result.andThen_ok,same w],hv μ⟩
    · cases h
  case h_4=>
    obtain ⟨v,h1,h2⟩:=QaQ (P:=P) (t:=t) h ha hb
    simp only [AV.rel] at ha hb
    obtain ⟨s,rfl,_⟩:=ha;obtain ⟨u,rfl,_⟩:=hb
    exact ⟨v,fun w=>by simp only [UE,Sem.run_bind,gs w,Result.andThen_ok,h1 w],h2⟩
  case h_5=>
    split at h
    · obtain ⟨q, hq, rfl⟩ := Option.map_eq_some_iff.1 h
      exact ⟨_,(K1 hT hq ha hb (fun _ _ _ _ e=>by cases e) (fun _ _ e=>by cases e) (fun _ _=>hc rfl)).1 rfl,boolRel⟩
    · cases h
  case h_6=>
    split at h
    · obtain ⟨q, hq, rfl⟩ := Option.map_eq_some_iff.1 h
      exact ⟨_,(K1 hT hq ha hb (fun _ _ _ _ e=>by cases e) (fun _ _ e=>by cases e) (fun _ _=>hc rfl)).2 rfl,boolRel⟩
    · cases h
  case h_7 h1 h2 h3=>
    obtain ⟨q,hq,rfl⟩:=Option.map_eq_some_iff.1 h
    exact ⟨_,(K1 hT hq ha hb (fun k m k' n e e'=>h1 k m k' n e e') (fun m n e e'=>h2 m n e e') (fun e e'=>(h3 e e').elim)).1 rfl,boolRel⟩
  case h_8 h1 h2 h3=>
    obtain ⟨q,hq,rfl⟩:=Option.map_eq_some_iff.1 h
    exact ⟨_,(K1 hT hq ha hb (fun k m k' n e e'=>h1 k m k' n e e') (fun m n e e'=>h2 m n e e') (fun e e'=>(h3 e e').elim)).2 rfl,boolRel⟩
  case h_9=>cases h
end
end Go.Am
namespace Go.Am
open Go
section
variable {P:Program} {T:Ty} (hT:YN P T) {μ:Mu}
theorem un_ok {op:UnOp} {a r:AV} {x:Value} (h:aUn op a=some r) (ha:AV.rel μ a x):∃ v,Yld P (Op.unary op x) v∧r.rel μ v:=by
  unfold aUn at h
  split at h
  · injection h with h; subst h; simp only [AV.rel] at ha; subst ha
    rename_i k n
    refine ⟨.int k (k.wrap (0 - n)),fun w=>rfl,?_⟩
    rw [Z2];exact Zk
  · injection h with h; subst h; simp only [AV.rel] at ha; subst ha
    exact ⟨_,fun w=>rfl,by simp only [AV.rel]⟩
  · obtain ⟨q, hq, rfl⟩ := Option.map_eq_some_iff.1 h
    simp only [AV.rel] at ha;subst ha
    rename_i k n
    refine ⟨_,fun w=>?_,Zk⟩
    have hb:=QdG P w hq
    have:(Bool.rec (Int.ofNat (Nat.sub (KO k) 1)) (-1) k.signed:Int)=(if k.signed then -1 else k.max):=by
      cases k <;> rfl
    rw [this] at hb
    exact hb
  · cases h
theorem extract_ok {i:Nat} {a r:AV} {x:Value} (h:Xd i a=some r) (ha:AV.rel μ a x):∃ v,Yld P (Instr.extract x i) v∧r.rel μ v:=by
  unfold Xd at h
  split at h
  · simp only [AV.rel] at ha
    obtain ⟨vs,rfl,hl⟩:=ha
    obtain ⟨v,hv,hr⟩:=AV.relL_get hl _ _ h
    rw [Array.getElem?_toList] at hv
    exact ⟨v,fun w=>by simp [Instr.extract,hv],hr⟩
  · cases h
include hT in
theorem lenStr_ok {t ty:TypeId} {a r:AV} {x:Value} (ht:(T t).kd=.str) (h:GR a=some r) (ha:AV.rel μ a x):∃ v,Yld P (Builtin.len_ #[t] ty #[x]) v∧r.rel μ v:=by
  obtain ⟨d,h1,rfl⟩:=QJ hT ht rfl
  unfold GR at h
  split at h
  · injection h with h; subst h; simp only [AV.rel] at ha; obtain ⟨b, rfl, rfl⟩ := ha
    exact ⟨.int .i64 (b.size:Nat),fun w=>by simp [Builtin.len_,run_underlying h1,goInt],Zk⟩
  · cases h
include hT in
theorem lenSl_ok {t ty e:TypeId} {a r:AV} {x:Value} (ht:(T t).kd=.slice e) (h:NZ a=some r) (ha:AV.rel μ a x):∃ v,Yld P (Builtin.len_ #[t] ty #[x]) v∧r.rel μ v:=by
  obtain ⟨d,h1,rfl⟩:=QJ hT ht rfl
  unfold NZ at h
  split at h
  · injection h with h; subst h; simp only [AV.rel] at ha; subst ha
    exact ⟨.int .i64 (0:Nat),fun w=>by simp [Builtin.len_,run_underlying h1,goInt],Zk⟩
  · rename_i id off len cap es ex
    injection h with h;subst h;simp only [AV.rel] at ha;obtain ⟨b,d,c,o,a,_,rfl,_⟩:=ha
    exact ⟨.int .i64 (len:Nat),fun w=>by simp [Builtin.len_,run_underlying h1,goInt],Zk⟩
  · cases h
include hT in
theorem aint_ok {s d:TypeId} {k:IntKind} {a r:AV} {x:Value} (hs:(T s).kd.known=true) (hd:(T d).kd=.int k) (h:aInt k a=some r) (ha:AV.rel μ a x):∃ v,Yld P (convert s d x) v∧r.rel μ v:=by
  obtain ⟨ds,h1,_⟩:=QJ hT rfl hs
  obtain ⟨dd,h2,rfl⟩:=QJ hT hd rfl
  unfold aInt at h
  split at h
  · injection h with h; subst h; simp only [AV.rel] at ha; subst ha
    rw [Z2]
    refine ⟨_,fun w=>?_,Zk⟩
    simp [convert,run_underlying h1,run_underlying h2,Conv.intToInt]
  · cases h
theorem JF {w:World} {b o:Nat} {ccs:Array Value} {t:TypeId} {fr:Nat × Nat} {v:Value} (h:w.heap[b]?=some (.cells ccs t fr)) (hv:ccs[o]?=some v):w.cell? ⟨b,o,none⟩=some v:=by
  simp [World.cell?,h,hv]
omit hT in
theorem QbH {h:H} {w:World} {g off:Nat} {cs:List AV} {x:Value} (hr:Rel μ h w) (e:Ul h g=some cs) (ha:AV.rel μ (.glob g off) x):AV.rel μ (.ptr g off) x∧∃ t,h.get g=.cells false t cs:=by
  unfold Ul at e
  split at e
  · rename_i h1 h2
    injection e with e;subst e
    rw [QH] at h1
    simp only [AV.rel] at ha ⊢
    exact ⟨⟨g,0,hr.glb g _ _ h1 h2,by rw [ha,Nat.zero_add]⟩,_,h2⟩
  · cases e
include hT in
theorem DF {t : TypeId} {id off : Nat} {r : AV} {x : Value} {h : H} {w : World} (ht : (T t).kd.known = true) (hg : (T t).kd.agg = false) (hr : Rel μ h w) (e : Zn (.ptr id off) h = some r) (ha : AV.rel μ (.ptr id off) x) :
    ∃ v,(Instr.loadAt t x).run P w=.ok v w∧r.rel μ v:=by
  unfold Zn at e
  simp only at e
  · simp only [AV.rel] at ha
    obtain ⟨b,d,hm,rfl⟩:=ha
    have hb:=hr.blk id b d hm
    split at e
    · rename_i t' cs hc
      rw [hc] at hb
      obtain ⟨ccs,fr,h1,h2,_⟩:=hb
      rw [Vn] at e
      obtain ⟨v,hv,hvr⟩:=h2 off r e
      refine ⟨v,?_,hvr⟩
      simp [Instr.loadAt,Instr.sureAddr,loadVar,K9 hT ht,hg,JF h1 hv]
    · rename_i t' fz sg s hc
      rw [hc] at hb
      obtain ⟨ccs,fr,l,h1,rfl,h2,_⟩:=hb
      rw [Str.brec] at e
      split at e
      · rename_i hlt; rw [QH] at hlt
        have hlt:off < l.length:=hlt
        injection e with e;subst e
        have hv:=h2 off l[off] (by simp [hlt])
        refine ⟨.int .u8 (Int.ofNat ((Str.of l).get off)),?_,Zk⟩
        rw [Str.get_of l off hlt]
        simp [Instr.loadAt,Instr.sureAddr,loadVar,K9 hT ht,hg,JF h1 hv]
      · cases e
    · cases e
include hT in
theorem load1_ok {t:TypeId} {a r:AV} {x:Value} {h:H} {w:World} (ht:(T t).kd.known=true) (hg:(T t).kd.agg=false) (hr:Rel μ h w) (e:Zn a h=some r) (ha:AV.rel μ a x) :
    ∃ v,(Instr.loadAt t x).run P w=.ok v w∧r.rel μ v:=by
  cases a with
  | ptr id off=>exact DF hT ht hg hr e ha
  | glob g off =>
    unfold Zn at e;simp only at e
    split at e
    · rename_i cs hc
      obtain ⟨h1,t',h2⟩:=QbH hr hc ha
      exact DF hT ht hg hr (id:=g) (off:=off) (by simp only [Zn,h2];exact e) h1
    · cases e
  | _=>unfold Zn at e;cases e
include hT in
theorem DE {t : TypeId} {id off : Nat} {r : AV} {x : Value} {h : H} {w : World} (ht : (T t).kd.known = true) (hg : (T t).kd.agg = true) (hr : Rel μ h w) (e : Y7 (T t).size (.ptr id off) h = some r) (ha : AV.rel μ (.ptr id off) x) :
    ∃ v,(Instr.loadAt t x).run P w=.ok v w∧r.rel μ v:=by
  unfold Y7 at e
  simp only at e
  · simp only [AV.rel] at ha
    obtain ⟨b,d,hm,rfl⟩:=ha
    have hb:=hr.blk id b d hm
    split at e
    · rename_i t' cs hc
      rw [hc] at hb
      obtain ⟨ccs,fr,h1,h2,_⟩:=hb
      rw [Vk,Uc] at e
      split at e
      · rename_i l hl
        split at hl
        · rename_i hle
          injection hl with hl;injection e with e;subst hl e
          have hlen:((cs.drop off).take (T t).size).length=(T t).size:=by simp at hle ⊢;omega
          have key:∀ j a,((cs.drop off).take (T t).size)[j]?=some a→∃ v,ccs[d+off+j]?=some v∧AV.rel μ a v:=by
            intro j a hj
            rw [List.getElem?_take] at hj
            split at hj
            · rw [List.getElem?_drop] at hj
              obtain ⟨v,hv,hvr⟩:=h2 _ _ hj
              exact ⟨v,by rw [Nat.add_assoc];exact hv,hvr⟩
            · cases hj
          have hcell:∀ j,j < (T t).size→w.cell? ((⟨b,d+off,none⟩:Addr).add j)=some (ccs[d+off+j]?.getD undef):=by
            intro j hj
            rw [ZM]
            obtain ⟨v,hv,_⟩:=key j _ (List.getElem?_eq_getElem (by rw [hlen];exact hj))
            rw [hv];exact JF h1 hv
          refine ⟨.agg ((List.range (T t).size).map fun j=>ccs[d+off+j]?.getD undef).toArray,?_,?_⟩
          · simp only [Instr.loadAt,Instr.sureAddr,Sem.run_bind,Sem.run_pure,Result.andThen_ok,loadVar,K9 hT ht,hg,if_true,Q6 hT ht,run_loadCells w _ _ _ hcell]
          · simp only [AV.rel]
            refine ⟨_,rfl,AV.relL_of_get (by simp;rw [List.length_take,List.length_drop] at hlen;omega) fun j a hj=>?_⟩
            obtain ⟨v,hv,hvr⟩:=key j a hj
            have hjl:j < (T t).size:=by
              have:=(List.getElem?_eq_some_iff.1 hj).1;omega
            exact ⟨v,by simp [hjl,hv],hvr⟩
        · cases hl
      · cases e
    · cases e
include hT in
theorem loadN_ok {t:TypeId} {a r:AV} {x:Value} {h:H} {w:World} (ht:(T t).kd.known=true) (hg:(T t).kd.agg=true) (hr:Rel μ h w) (e:Y7 (T t).size a h=some r) (ha:AV.rel μ a x) :
    ∃ v,(Instr.loadAt t x).run P w=.ok v w∧r.rel μ v:=by
  cases a with
  | ptr id off=>exact DE hT ht hg hr e ha
  | glob g off =>
    unfold Y7 at e;simp only at e
    split at e
    · rename_i cs hc
      obtain ⟨h1,t',h2⟩:=QbH hr hc ha
      exact DE hT ht hg hr (id:=g) (off:=off) (by simp only [Y7,h2];exact e) h1
    · cases e
  | _=>unfold Y7 at e;cases e
end
end Go.Am
namespace Go.Am
open Go
section
variable {P:Program} {T:Ty} (hT:YN P T) {μ:Mu}
theorem QeE:∀ (xs:List Value) (off k:Nat) (cs:Array Value),(xs.zipIdx k).foldl (fun cs (c,j)=>cs.setIfInBounds (off+j) c) cs =
    if off+k+xs.length≤cs.size then (cs.toList.take (off+k)++xs++cs.toList.drop (off+k+xs.length)).toArray else (xs.zipIdx k).foldl (fun cs (c,j)=>cs.setIfInBounds (off+j) c) cs
  | [],off,k,cs=>by simp
  | x :: xs, off, k, cs => by
    by_cases h:off+k+(x::xs).length≤cs.size
    · rw [if_pos h]
      simp only [List.zipIdx_cons,List.foldl_cons]
      rw [QeE xs off (k+1) _,if_pos (by simp at h ⊢;omega)]
      have e:=list_seg_step cs.toList (off+k) x xs (by simp at h ⊢;omega)
      congr 1
      simpa [Array.toList_setIfInBounds,Nat.add_assoc] using e
    · rw [if_neg h]
theorem relL_put {cs xs:List AV} {cs':List AV} {vs:Array Value} {x:Value} {off:Nat} (h:Q7 off xs cs=some cs') (hr:AV.relL μ cs vs.toList) (hx:AV.relL μ xs x.cells.toList) :
    off+x.cells.size≤vs.size∧x.cells.size=xs.length∧AV.relL μ cs' (x.cells.zipIdx.foldl (fun cs (c,j)=>cs.setIfInBounds (off+j) c) vs).toList:=by
  rw [Wa] at h
  split at h
  · rename_i hle
    injection h with h;subst h
    have e1:=AV.relL_length hr
    have e2:=AV.relL_length hx
    have e1':vs.size=cs.length:=by simpa using e1
    have e2':x.cells.size=xs.length:=by simpa using e2
    refine ⟨by omega,e2',?_⟩
    have hz:x.cells.zipIdx.foldl (fun cs (c,j)=>cs.setIfInBounds (off+j) c) vs=(x.cells.toList.zipIdx 0).foldl (fun cs (c,j)=>cs.setIfInBounds (off+j) c) vs:=by
      rw [← Array.foldl_toList,Array.toList_zipIdx]
    rw [hz,QeE,if_pos (by simp;omega)]
    simp only [Nat.add_zero]
    rw [show x.cells.toList.length=xs.length from e2]
    exact AV.relL_append (AV.relL_append (Dh _ hr) hx) (Di _ hr)
  · cases h
def Um (μ:Mu) (place:Nat→Option (Nat × Nat)):List (Nat × Nat × AV)→List (Nat × Value)→Prop
  | [],cps=>cps=[]
  | p::ps,cps=>∃ i x r,cps=(i,x)::r∧place i=some (p.1,p.2.1)∧AV.rel μ p.2.2 x∧Um μ place ps r
theorem GN (place : Nat → Option (Nat × Nat)) : ∀ (parts : List (Nat × Nat × AV)) (cps : List (Nat × Value)) (cs cs' : List AV) (vs : Array Value),
    Um μ place parts cps→UN cs parts=some cs'→AV.relL μ cs vs.toList →
    ∃ vs',Instr.fill place vs cps=some vs'∧AV.relL μ cs' vs'.toList
  | [], _, cs, cs', vs, hp, h, hr => by
    simp only [Um] at hp;subst hp
    simp only [UN,Option.some.injEq] at h;subst h
    exact ⟨vs,rfl,hr⟩
  | (off, size, v) :: parts, _, cs, cs', vs, hp, h, hr => by
    simp only [Um] at hp
    obtain ⟨i,x,cps,rfl,h1,hx0,h2⟩:=hp
    simp only [UN] at h
    split at h
    · rename_i xs hxs
      rw [Str.brec] at h
      split at h
      · rename_i hsz; rw [Nat.beq_eq] at hsz
        split at h
        · rename_i cs1 hput
          have hx:=XU hxs hx0
          obtain ⟨e1,e2,e3⟩:=relL_put hput hr hx
          obtain ⟨vs',hf,hfr⟩:=GN place parts cps cs1 cs' _ h2 h e3
          refine ⟨vs',?_,hfr⟩
          simp only [Instr.fill,h1]
          rw [if_neg]
          · exact hf
          · simp;omega
        · cases h
      · cases h
    · cases h
def Vf (T : Ty) (fs : List (Nat × Nat)) : List (Nat × AV) → Option (List (Nat × Nat × AV))
  | []=>some []
  | (i, v) :: r => match fs[i]? with
    | some (off, t) => match (T t).kd.known with
      | true => match Vf T fs r with
        | some l=>some ((off,(T t).size,v)::l)
        | none=>none
      | false=>none
    | none=>none
def U2 (size:Nat):List (Nat × AV)→List (Nat × Nat × AV)
  | []=>[]
  | (i,v)::r=>(i * size,size,v)::U2 size r
def QcD (μ:Mu):List (Nat × AV)→List (Nat × Value)→Prop
  | [],cps=>cps=[]
  | p::ps,cps=>∃ x r,cps=(p.1,x)::r∧AV.rel μ p.2 x∧QcD μ ps r
theorem J6 (size:Nat):∀ (ps:List (Nat × AV)) (cps:List (Nat × Value)),QcD μ ps cps→Um μ (fun i=>some (i * size,size)) (U2 size ps) cps
  | [],_,h=>h
  | (i, v) :: r, _, h => by
    obtain ⟨x,cr,rfl,h1,h2⟩:=h
    exact ⟨i,x,cr,rfl,rfl,h1,J6 size r cr h2⟩
include hT in
theorem Nj (w:World):∀ (fields:List Field),(∀ f∈fields,(T f.type).kd.known=true)→((fields.mapM fun f=>do pure (f.offset,← sizeOf f.type):Sem (List (Nat × Nat))).run P w)=.ok (fields.map fun f=>(f.offset,(T f.type).size)) w
  | [],_=>rfl
  | f :: fs, h => by
    have h1:=Q6 hT (w:=w) (h f (by simp))
    have h2:=Nj w fs fun g hg=>h g (by simp [hg])
    simp only [List.mapM_cons,Sem.run_bind,h1,Result.andThen_ok,Sem.run_pure,h2,List.map_cons]
theorem G7 (fields : List Field) : ∀ (ps : List (Nat × AV)) (l : List (Nat × Nat × AV)) (cps : List (Nat × Value)), Vf T (fields.map fun f => (f.offset, f.type)) ps = some l → QcD μ ps cps →
    Um μ (fun i=>(fields.map fun f=>(f.offset,(T f.type).size))[i]?) l cps
  | [], l, cps, h, hr => by
    simp only [Vf,Option.some.injEq] at h;subst h;exact hr
  | (i, v) :: r, l, cps, h, hr => by
    obtain ⟨x,cr,rfl,h1,h2⟩:=hr
    simp only [Vf] at h
    split at h
    · rename_i off t hf
      split at h
      · split at h
        · rename_i l' hl
          injection h with h;subst h
          refine ⟨i,x,cr,rfl,?_,h1,G7 fields r l' cr hl h2⟩
          rw [List.getElem?_map,Option.map_eq_some_iff] at hf
          obtain ⟨f,hf,e⟩:=hf
          injection e with e1 e2
          simp [hf,e1,e2]
        · cases h
      · cases h
    · cases h
theorem forall_known {fs:List (Nat × Nat)} (h:fs.all (fun p=>(T p.2).kd.known)=true) {fields:List Field} (e:fs=fields.map fun f=>(f.offset,f.type)):∀ f∈fields,(T f.type).kd.known=true:=by
  intro f hf
  subst e
  rw [List.all_map,List.all_eq_true] at h
  exact h f hf
include hT in
theorem buildS_ok {t:TypeId} {fs:List (Nat × Nat)} {ps:List (Nat × AV)} {l:List (Nat × Nat × AV)} {cps:Array (Nat × Value)} {r:AV} (ht:(T t).kd=.struct fs) (hk:fs.all (fun p=>(T p.2).kd.known)=true)
    (hl:Vf T fs ps=some l) (h:Jo (T t).zero l=some r) (hr:QcD μ ps cps.toList):∃ v,Yld P (Instr.build t cps) v∧r.rel μ v:=by
  obtain ⟨d,h1,fields,rfl,h3⟩:=QJ hT ht rfl
  unfold Jo at h
  split at h
  · rename_i cs hcs
    injection h with h;subst h
    obtain ⟨i,z0,e1,_,_,e2,hzr,_⟩:=(hT t (by rw [ht];rfl)).info
    have zsame:∀ w,(zeroValue t).run P w=.ok z0 w:=fun w=>by simp [zeroValue,typeInfo,e1,e2]
    subst h3
    have hp:=G7 (T:=T) (μ:=μ) fields.toList ps l cps.toList hl hr
    have hzr':AV.relL μ (T t).zero z0.cells.toList:=AV.relL_mono (fun _ _ h=>by cases h) _ _ hzr
    obtain ⟨vs',hf,hfr⟩:=GN _ l cps.toList _ cs z0.cells hp hcs hzr'
    refine ⟨.agg vs',fun w=>?_,by simp only [AV.rel];exact ⟨vs',rfl,hfr⟩⟩
    have hpl:((fields.mapM fun f=>do pure (f.offset,← sizeOf f.type):Sem (Array (Nat × Nat))).run P w)=.ok (fields.toList.map fun f=>(f.offset,(T f.type).size)).toArray w:=by
      rw [Array.mapM_eq_mapM_toList]
      simp only [Sem.run_map,Nj hT w fields.toList (forall_known hk rfl),Result.andThen_ok]
    simp only [Instr.build,Sem.run_bind,zsame w,Result.andThen_ok,run_underlying h1,hpl,List.getElem?_toArray,hf,Sem.run_pure]
  · cases h
include hT in
theorem buildA_ok {t n e:TypeId} {ps:List (Nat × AV)} {cps:Array (Nat × Value)} {r:AV} (ht:(T t).kd=.arr n e) (hk:(T e).kd.known=true)
    (h:Jo (T t).zero (U2 (T e).size ps)=some r) (hr:QcD μ ps cps.toList):∃ v,Yld P (Instr.build t cps) v∧r.rel μ v:=by
  obtain ⟨d,h1,rfl⟩:=QJ hT ht rfl
  unfold Jo at h
  split at h
  · rename_i cs hcs
    injection h with h;subst h
    obtain ⟨i,z,e1,_,_,e2,hzr,_⟩:=(hT t (by rw [ht];rfl)).info
    have key:∀ w,(zeroValue t).run P w=.ok z w:=fun w=>by simp [zeroValue,typeInfo,e1,e2]
    have hzr':AV.relL μ (T t).zero z.cells.toList:=AV.relL_mono (fun _ _ h=>by cases h) _ _ hzr
    obtain ⟨vs',hf,hfr⟩:=GN _ _ cps.toList _ cs z.cells (J6 (T e).size ps _ hr) hcs hzr'
    refine ⟨.agg vs',fun w=>?_,by simp only [AV.rel];exact ⟨vs',rfl,hfr⟩⟩
    simp only [Instr.build,Sem.run_bind,key w,Result.andThen_ok,run_underlying h1,Q6 hT hk,hf,Sem.run_pure]
  · cases h
end
end Go.Am
namespace Go.Am
open Go
def AOk (P : Program) (μ : Mu) (s : Sem Value) (k : Blk) (f : Nat → AV) : Prop :=
  ∀ w : World, ∃ v ob w', s.run P w = .ok v w' ∧ w'.heap = w.heap.push ob ∧ w'.os = w.os ∧ w'.tape = w.tape ∧ w'.output = w.output ∧
    (∀ μ':Mu,Le μ μ'→BlkRel μ' w' w.heap.size 0 k)∧k.live=true∧(∃ cs t fr,ob=.cells cs t fr∧∀ n (μ':Mu),μ' n=some (w.heap.size,0)→μ'.sz n=cs.size→(f n).rel μ' v)
theorem modify_push (a:Array Obj) (o:Obj) (f:Obj→Obj):(a.push o).modify a.size f=a.push (f o):=by
  apply Array.ext
  · simp
  · intro i h1 h2
    simp only [Array.getElem_modify,Array.getElem_push]
    simp at h1
    by_cases h:i < a.size
    · have : a.size ≠ i := by omega
      rw [if_neg this,dif_pos h,dif_pos h]
    · have : a.size = i := by omega
      simp [this]
theorem GE {μ:Mu}:Le J8 μ:=fun _ _ h=>by cases h
theorem Xc : ∀ {parts : List (Nat × Nat × AV)} {cs cs' : List AV}, UN cs parts = some cs' → cs'.length = cs.length
  | [],cs,cs',h=>by simp only [UN,Option.some.injEq] at h;rw [h]
  | (off, size, v) :: parts, cs, cs', h => by
    simp only [UN] at h
    split at h
    · rw [Str.brec] at h
      split at h
      · split at h
        · rename_i xs hxs hsz cs1 hput
          rw [Xc h]
          rw [Wa] at hput
          split at hput
          · injection hput with hput;subst hput;simp;omega
          · cases hput
        · cases h
      · cases h
    · cases h
section
variable {P:Program} {T:Ty} (hT:YN P T) {μ:Mu}
theorem JE {μ:Mu} {w w':World} {t:TypeId} {vs:Array Value} {cs:List AV} (hh:w'.heap=w.heap.push (.cells vs t (0,0))) (hr:AV.relL μ cs vs.toList) (μ':Mu) (hm:Le μ μ') :
    BlkRel μ' w' w.heap.size 0 (.cells false t cs):=by
  refine ⟨vs,(0,0),by rw [hh];simp,fun i a ha=>?_,fun o _ _ h=>by omega,fun _=>rfl⟩
  obtain ⟨v,hv,hvr⟩:=AV.relL_get hr i a ha
  rw [Array.getElem?_toList] at hv
  exact ⟨v,by simpa using hv,AV.rel_mono hm a v hvr⟩
include hT in
theorem alloc_ok {t:TypeId} (ht:(T t).kd.known=true) {k:Blk} {f:Nat→AV} (h:Qfk t (T t).zero=some (k,f)):AOk P μ (Instr.alloc t true (.tuple #[])) k f:=by
  injection h with h;injection h with e1 e2;subst e1 e2
  intro w
  obtain ⟨i,z,e1,_,_,e2,hzr,_⟩:=(hT t ht).info
  have key:∀ w,(zeroValue t).run P w=.ok z w:=fun w=>by simp [zeroValue,typeInfo,e1,e2]
  refine ⟨.pointer (some ⟨w.heap.size,0,none⟩),.cells z.cells t (0,0),{ w with heap:=w.heap.push (.cells z.cells t (0,0)) },?_,rfl,rfl,rfl,rfl,?_,rfl,?_⟩
  · simp [Instr.alloc,key,newVar,newRow]
  · exact JE rfl (AV.relL_mono GE _ _ hzr)
  · refine ⟨_,_,_,rfl,fun n μ' hm _=>?_⟩;simp only [AV.rel];exact ⟨_,_,hm,by simp⟩
theorem box_ok {t:TypeId} {a:AV} {x:Value} {k:Blk} {f:Nat→AV} (h:Qfj t a=some (k,f)) (ha:AV.rel μ a x):AOk P μ (Instr.box t x) k f:=by
  unfold Qfj at h
  split at h
  · rename_i cs hcs
    injection h with h;injection h with e1 e2;subst e1 e2
    intro w
    refine ⟨.pointer (some ⟨w.heap.size,0,none⟩),.cells x.cells t (0,0),{ w with heap:=w.heap.push (.cells x.cells t (0,0)) },?_,rfl,rfl,rfl,rfl,?_,rfl,?_⟩
    · simp [Instr.box,newVar,newRow]
    · exact JE rfl (XU hcs ha)
    · refine ⟨_,_,_,rfl,fun n μ' hm _=>?_⟩;simp only [AV.rel];exact ⟨_,_,hm,by simp⟩
  · cases h
theorem GY : ∀ {cs : List AV} {s : Str} {vs : List Value}, YW cs = some s → AV.relL μ cs vs → ∃ l : List UInt8, s = Str.of l ∧ vs = l.map fun b => .int .u8 b.toNat
  | [], s, vs, h, hr => by
    simp only [YW,Option.some.injEq] at h;subst h
    rw [AV.relL_nil] at hr;subst hr
    exact ⟨[],rfl,rfl⟩
  | a :: r, s, vs, h, hr => by
    obtain ⟨v,vs',rfl,h1,h2⟩:=AV.relL_cons.1 hr
    unfold YW at h
    split at h
    · rename_i e;cases e
    · rename_i c r' e
      injection e with e1 e2;subst e1 e2
      rw [Str.brec] at h
      split at h
      · rename_i hlt; rw [QH] at hlt
        split at h
        · rename_i s' hs
          injection h with h;subst h
          obtain ⟨l,rfl,rfl⟩:=GY hs h2
          simp only [AV.rel] at h1;subst h1
          refine ⟨UInt8.ofNat c::l,?_,?_⟩
          · have : (⟨1, c⟩ : Str) = Str.of [UInt8.ofNat c] := by
              simp [Str.of,Str.num,Nat.mod_eq_of_lt hlt]
            rw [this,Str.cat_of];rfl
          · simp [Nat.mod_eq_of_lt hlt]
        · cases h
      · cases h
    · cases h
theorem row_ok {u8:Bool} {w w':World} {t:TypeId} {vs:Array Value} {cs:List AV} {k:Blk} (h:Wd u8 t cs=some k) (hh:w'.heap=w.heap.push (.cells vs t (0,0))) (hr:AV.relL μ cs vs.toList) :
    k.live=true∧∀ (μ':Mu),Le μ μ'→BlkRel μ' w' w.heap.size 0 k:=by
  unfold Wd at h
  split at h
  · split at h
    · rename_i s hs
      injection h with h;subst h
      refine ⟨rfl,fun μ' _=>?_⟩
      obtain ⟨l,rfl,hl⟩:=GY hs hr
      refine ⟨vs,(0,0),l,by rw [hh];simp,rfl,fun i x hx=>?_,fun o _ _ h=>by omega,fun _=>.inl rfl⟩
      rw [← Array.getElem?_toList,hl];simp [hx]
    · cases h
  · injection h with h; subst h
    exact ⟨rfl,fun μ' hm=>JE hh hr μ' hm⟩
theorem Qbi (z:Array Value) (hz:z.size≠0):∀ n,(List.range (n * z.size)).map (fun i=>z[i % z.size]!)=Ua n z.toList
  | 0=>by simp;rfl
  | n + 1 => by
    rw [Jy,← Qbi z hz n,Nat.succ_mul,Nat.add_comm,List.range_add,List.map_append]
    congr 1
    · apply List.ext_getElem?
      intro i
      by_cases hi:i < z.size
      · simp [hi,Nat.mod_eq_of_lt hi]
      · simp [hi]
    · rw [List.map_map]
      apply List.map_congr_left
      intro i _
      simp
theorem Qbk {zs:List AV} {z:List Value} (h:AV.relL μ zs z):∀ n,AV.relL μ (Ua n zs) (Ua n z)
  | 0=>AV.relL_nil.2 rfl
  | n+1=>by rw [Jy,Jy];exact AV.relL_append h (Qbk h n)
theorem Xg {zs:List AV} {z:Array Value} {size n:Nat} (h:AV.relL μ zs z.toList) (hs:z.size=size) (h0:size≠0):AV.relL μ (Ua n zs) ((Array.range (n * size)).map (z[· % z.size]!)).toList:=by
  rw [Array.toList_map,Array.toList_range,← hs,Qbi z (by omega)]
  exact Qbk h n
include hT in
theorem buildSlice_ok {t e n ty : TypeId} {ps : List (Nat × AV)} {cps : Array (Nat × Value)} {k : Blk} {f : Nat → AV} (ht : (T t).kd = .slice e) (hk : (T e).kd.known = true) (hz0 : (T e).size ≠ 0) (hzl : (T e).zero.length = (T e).size) (hle : n * (T e).size ≤ 16777216)
    (h:VO (T e).size (T e).kd.isU8 e (T e).zero n (U2 (T e).size ps)=some (k,f)) (hr:QcD μ ps cps.toList):AOk P μ (Instr.buildSlice t n cps) k f:=by
  obtain ⟨d,h1,rfl⟩:=QJ hT ht rfl
  unfold VO at h
  split at h
  · rename_i cs hcs
    split at h
    · rename_i k' hk'
      injection h with h;injection h with e1 e2;subst e1 e2
      intro w
      obtain ⟨i,z,e1,_,_,e2,hzr,_⟩:=(hT e hk).info
      have key:∀ w,(zeroValue e).run P w=.ok z w:=fun w=>by simp [zeroValue,typeInfo,e1,e2]
      have hzs:z.cells.size=(T e).size:=by have:=AV.relL_length hzr;rw [← hzl,← this];simp
      have hzr':AV.relL μ (Ua n (T e).zero) ((Array.range (n * (T e).size)).map (z.cells[· % z.cells.size]!)).toList :=
        Xg (AV.relL_mono GE _ _ hzr) hzs hz0
      obtain ⟨vs',hf,hfr⟩:=GN _ _ cps.toList _ cs _ (J6 (T e).size ps _ hr) hcs hzr'
      obtain ⟨hl,hb⟩:=row_ok (w:=w) (w':={ w with heap:=w.heap.push (.cells vs' e (0,0)) }) hk' rfl hfr
      refine ⟨.slice (some ⟨w.heap.size,0,none⟩) n n,.cells vs' e (0,0),{ w with heap:=w.heap.push (.cells vs' e (0,0)) },?_,rfl,rfl,rfl,rfl,hb,hl,?_⟩
      · have hle' : ¬ n * (T e).size > 2 ^ 24 := Nat.not_lt.2 hle
        by_cases hn:n=0
        · subst hn
          have e0:∀ z:Array Value,(Array.range (0 * (T e).size)).map (z[· % z.size]!)=#[]:=fun z=>by rw [Nat.zero_mul];simp
          rw [e0] at hf
          have e1:=e0 #[]
          simp only [Instr.buildSlice,Sem.run_bind,run_underlying h1,Result.andThen_ok,Q6 hT hk,Sem.run_ite,Nat.zero_mul,if_true,Sem.run_pure,newRow,run_newObj] at e1 hf ⊢
          have e2:∀ f:Nat→Value,(Array.range 0).map f=#[]:=fun f=>by simp
          simp only [e2,hf,Sem.run_bind,run_newObj,Result.andThen_ok,Sem.run_pure]
          rfl
        · have hne : ¬ n * (T e).size = 0 := by
            intro h0;rcases Nat.mul_eq_zero.1 h0 with h0 | h0
            · exact hn h0
            · exact hz0 h0
          simp only [Instr.buildSlice,Sem.run_bind,run_underlying h1,Result.andThen_ok,Q6 hT hk,Sem.run_ite,hne,if_false,key w,Sem.run_pure,hle',hf,newRow,run_newObj]
      · refine ⟨_, _, _, rfl, fun m μ' hm hsz => ?_⟩
        have hvl:vs'.size=n * (T e).size:=by
          have h1:=AV.relL_length hfr;have h2:=Xc hcs;have h3:=AV.relL_length hzr'
          simp at h1 h3;omega
        simp only [AV.rel];exact ⟨_,_,_,_,_,hm,rfl,.inl rfl,fun _=>rfl,Nat.le_refl _,fun _=>rfl,Nat.le_refl _,Nat.le_refl _,by rw [hsz,hvl];omega⟩
    · cases h
  · cases h
include hT in
theorem strBytes_ok {s t e:TypeId} {a:AV} {x:Value} {k:Blk} {f:Nat→AV} (hs:(T s).kd=.str) (ht:(T t).kd=.slice e) (hk:(T e).kd=.int .u8) (h:X6 e a=some (k,f)) (ha:AV.rel μ a x) :
    AOk P μ (convert s t x) k f:=by
  obtain ⟨d,h1,rfl⟩:=QJ hT hs rfl
  obtain ⟨d,h2,rfl⟩:=QJ hT ht rfl
  obtain ⟨d,h3,rfl⟩:=QJ hT hk rfl
  unfold X6 at h
  split at h
  · injection h with h; injection h with e1 e2; subst e1 e2
    simp only [AV.rel] at ha
    obtain ⟨b,rfl,rfl⟩:=ha
    intro w
    have hcap:∀ t,b.size≤(Question.appendCap b.size 0 e).cut t:=fun t=>by show b.size≤b.size+_;omega
    generalize hc:(Question.appendCap b.size 0 e).cut (w.tape w.drawn (.appendCap b.size 0 e))=cap
    have hle:b.size≤cap:=by rw [← hc];exact hcap _
    have hsz:((b.data.map fun b=>Value.int .u8 b.toNat)++Array.replicate (cap - b.size) (Value.int .u8 0)).size=cap:=by
      have:b.data.size=b.size:=rfl
      simp [this];omega
    refine ⟨.slice (some ⟨w.heap.size,0,none⟩) b.size cap,.cells ((b.data.map fun b=>.int .u8 b.toNat)++Array.replicate (cap - b.size) (.int .u8 0)) e (cap,cap+1),{ w with heap:=w.heap.push (.cells ((b.data.map fun b=>.int .u8 b.toNat)++Array.replicate (cap - b.size) (.int .u8 0)) e (cap,cap+1)),drawn:=w.drawn+1 },?_,rfl,rfl,rfl,rfl,?_,rfl,?_⟩
    · have hsh : ∀ (w : World) (o : Obj), ({ w with heap := w.heap.push o } : World).heap[w.heap.size]? = some o := fun w o => by simp
      simp only [convert,Sem.run_bind,run_underlying h1,run_underlying h2,run_underlying h3,Result.andThen_ok,Conv.stringToBytes,run_choose,Question.forced,Bool.false_eq_true,if_false,newRow,run_newObj,Sem.run_pure,hc,markStringish,run_shape,World.shape?,hsh,hsz,run_freeze]
      congr 1
      unfold World.freeze
      rw [if_neg (by omega)]
      simp only [modify_push]
      rfl
    · intro μ' hm
      refine ⟨(b.data.map fun b=>.int .u8 b.toNat)++Array.replicate (cap - b.size) (.int .u8 0),(cap,cap+1),b.data.toList,by simp,rfl,fun i y hy=>?_,fun _ o _ ho h=>by rw [hsz] at ho;simp at h;omega,fun h=>(by cases h)⟩
      have hi:i < b.data.size:=by simpa using (List.getElem?_eq_some_iff.1 hy).1
      rw [Nat.zero_add,Array.getElem?_append_left (by simpa using hi)]
      simp
      exact ⟨_,by simpa using hy,rfl⟩
    · refine ⟨_, _, _, rfl, fun n μ' hm hsz2 => ?_⟩
      simp only [AV.rel];exact ⟨_,_,_,_,_,hm,rfl,.inl rfl,fun _=>(Nat.zero_add 0).symm,hle,fun h=>(by cases h),Nat.le_refl _,Nat.le_refl _,by rw [hsz2,hsz];omega⟩
  · cases h
end
end Go.Am
namespace Go.Am
open Go
structure Same (w w':World) (b:Nat):Prop where
  os:w'.os=w.os
  tape:w'.tape=w.tape
  output:w'.output=w.output
  size:w'.heap.size=w.heap.size
  other:∀ c,c≠b→w'.heap[c]?=w.heap[c]?
theorem Same.refl (w:World) (b:Nat):Same w w b:=⟨rfl,rfl,rfl,rfl,fun _ _=>rfl⟩
theorem Same.trans {w w' w'':World} {b:Nat} (h:Same w w' b) (k:Same w' w'' b):Same w w'' b :=
  ⟨k.os.trans h.os,k.tape.trans h.tape,k.output.trans h.output,k.size.trans h.size,fun c hc=>(k.other c hc).trans (h.other c hc)⟩
theorem setCell_same (w:World) (b o:Nat) (v:Value):Same w (w.setCell ⟨b,o,none⟩ v) b :=
  ⟨rfl,rfl,rfl,by simp [World.setCell],fun c hc=>by simp only [World.setCell,Array.getElem?_modify];rw [if_neg (by omega)]⟩
theorem setCell_at {w:World} {b:Nat} {ccs:Array Value} {t:TypeId} {fr:Nat × Nat} (h:w.heap[b]?=some (.cells ccs t fr)) (o:Nat) (v:Value) :
    (w.setCell ⟨b,o,none⟩ v).heap[b]?=some (.cells (ccs.setIfInBounds o v) t fr):=by
  simp only [World.setCell,Array.getElem?_modify,if_true,h];rfl
theorem Zx {P:Program} (b o:Nat) (t:TypeId) (fr:Nat × Nat):∀ (vs:List Value) (i:Nat) (w:World) (ccs:Array Value),w.heap[b]?=some (.cells ccs t fr)→o+i+vs.length≤ccs.size →
    (∀ j,o+i≤j→j < o+i+vs.length→¬ (fr.1≤j∧j < fr.2))→(∀ v∈vs,v.oneCell'=true) →
    ∃ w',(storeCells ⟨b,o,none⟩ vs i).run P w=.ok () w'∧Same w w' b∧w'.heap[b]?=some (.cells (ccs.toList.take (o+i)++vs++ccs.toList.drop (o+i+vs.length)).toArray t fr)
  | [],i,w,ccs,h,_,_,_=>⟨w,rfl,Same.refl _ _,by simp [h]⟩
  | v :: r, i, w, ccs, h, hl, hf, h1 => by
    simp only [List.length_cons] at hl hf
    have hcell:w.cell? ⟨b,o+i,none⟩=some ccs[o+i]:=by simp [World.cell?,h]
    have hfro:w.frozen? ⟨b,o+i,none⟩=false:=by
      have:=hf (o+i) (Nat.le_refl _) (by omega)
      simp only [World.frozen?,h]
      rw [Bool.and_eq_false_iff]
      simp only [decide_eq_false_iff_not]
      by_cases h1:fr.1≤o+i
      · exact .inr fun h2=>this ⟨h1,h2⟩
      · exact .inl h1
    have hst:(store ((⟨b,o,none⟩:Addr).add i) v).run P w=.ok () (w.setCell ⟨b,o+i,none⟩ v):=by
      rw [ZM,run_store P w _ v _ (h1 v (by simp)),hcell]
      simp [hfro]
    obtain ⟨w',e1,e2,e3⟩:=Zx (P:=P) b o t fr r (i+1) (w.setCell ⟨b,o+i,none⟩ v) _ (setCell_at h (o+i) v) (by simp;omega) (fun j hj hj'=>hf j (by omega) (by omega)) (fun x hx=>h1 x (by simp [hx]))
    refine ⟨w',?_,(setCell_same _ _ _ _).trans e2,?_⟩
    · simp only [storeCells,Sem.run_bind,hst,Result.andThen_ok,e1]
    · rw [e3]
      have e:=list_seg_step ccs.toList (o+i) v r (by simp;omega)
      simp only [Array.toList_setIfInBounds]
      rw [show o+(i+1)=o+i+1 from by omega,e];rfl
theorem YQ {ccs:Array Value} {vs:List Value} {k:Nat} (h:k+vs.length≤ccs.size):ccs.size=(ccs.toList.take k++vs++ccs.toList.drop (k+vs.length)).toArray.size:=by
  simp only [List.size_toArray,List.length_append,List.length_take,List.length_drop,Array.length_toList]
  rw [Nat.min_eq_left (by omega)];omega
theorem WF {w w':World} {b:Nat} {ccs ccs':Array Value} {t t':TypeId} {fr fr':Nat × Nat} (h:w.heap[b]?=some (.cells ccs t fr)) (h':w'.heap[b]?=some (.cells ccs' t' fr')) (hs:ccs.size=ccs'.size) :
    ∀ cs t fr,w'.heap[b]?=some (.cells cs t fr)→∃ cs' t' fr',w.heap[b]?=some (.cells cs' t' fr')∧cs'.size=cs.size:=by
  intro cs t1 fr1 hc
  rw [h'] at hc;injection hc with hc;injection hc with e1 e2 e3;subst e1
  exact ⟨ccs,t,fr,h,hs⟩
section
variable {P:Program} {T:Ty} (hT:YN P T) {μ:Mu}
theorem XV {w' : World} {b d off : Nat} {mv : Bool} {t : Nat} {cs xs cs' : List AV} {ccs : Array Value} {vs : List Value} {fr : Nat × Nat} (hp : Q7 off xs cs = some cs')
    (h2:∀ (i:Nat) (a:AV),cs[i]?=some a→∃ v,ccs[d+i]?=some v∧a.rel μ v) (hx:AV.relL μ xs vs) (hL:Qfp d ccs.size fr)
    (hw:w'.heap[b]?=some (.cells (ccs.toList.take (d+off)++vs++ccs.toList.drop (d+off+vs.length)).toArray t fr)) (hle:d+off+vs.length≤ccs.size) (hmv:mv=false→d=0):BlkRel μ w' b d (.cells mv t cs'):=by
  rw [Wa] at hp
  split at hp
  · rename_i hoff
    injection hp with hp;subst hp
    have hxl:=AV.relL_length hx
    refine ⟨_,fr,hw,fun i a ha=>?_,?_,hmv⟩
    · simp only [List.append_assoc, List.getElem?_toArray] at ha ⊢
      have hto:(ccs.toList.take (d+off)).length=d+off:=by simp;omega
      have hto2:(cs.take off).length=off:=by simp;omega
      by_cases c1:i < off
      · rw [List.getElem?_append_left (by omega)] at ha
        rw [List.getElem?_append_left (by omega)]
        simp only [List.getElem?_take,c1,if_true] at ha
        obtain ⟨v,hv,hr⟩:=h2 i a ha
        exact ⟨v,by rw [List.getElem?_take,if_pos (by omega)];simpa using hv,hr⟩
      · rw [List.getElem?_append_right (by omega)] at ha
        rw [List.getElem?_append_right (by omega),hto]
        rw [hto2] at ha
        by_cases c2:i - off < xs.length
        · rw [List.getElem?_append_left c2] at ha
          rw [List.getElem?_append_left (by omega),show d+i - (d+off)=i - off from by omega]
          exact AV.relL_get hx _ _ ha
        · rw [List.getElem?_append_right (by omega)] at ha
          rw [List.getElem?_append_right (by omega)]
          simp only [List.getElem?_drop] at ha ⊢
          obtain ⟨v,hv,hr⟩:=h2 _ a ha
          exact ⟨v,by rw [← hv];simp only [Array.getElem?_toList];congr 1;omega,hr⟩
    · intro _ o h1 h2
      refine hL o h1 ?_
      simp at h2;omega
  · cases hp
include hT in
theorem store_ok {t : TypeId} {a x : AV} {va vx : Value} {h h' : H} {w : World} (ht : (T t).kd.known = true) (hr : Rel μ h w) (e : Yu (T t).size a x h = some h') (ha : AV.rel μ a va) (hx : AV.rel μ x vx) :
    ∃ w',(Instr.storeAt t va vx).run P w=.ok () w'∧Post μ h w μ h' w':=by
  unfold Yu at e
  split at e
  · rename_i id off
    simp only [AV.rel] at ha
    obtain ⟨b,d,hm,rfl⟩:=ha
    have hb:=hr.blk id b d hm
    split at e
    · rename_i t' cs hc
      rw [hc] at hb
      obtain ⟨ccs,fr,h1,h2,h3,hmv⟩:=hb
      split at e
      · rename_i xs hxs
        simp only [Str.brec] at e
        split at e
        · rename_i c1; rw [Nat.beq_eq] at c1
          split at e
          · rename_i c2
            split at e
            · rename_i cs' hp
              have h3:=h3 (WH hr e)
              have hcr:=XU hxs hx
              have hlen:=AV.relL_length hcr
              have hle:off+xs.length≤cs.length:=by
                rw [Wa] at hp;split at hp
                · assumption
                · cases hp
              by_cases h0:xs=[]
              · subst h0
                have hv0:vx.cells=#[]:=by
                  have:vx.cells.toList.length=0:=by rw [hlen];rfl
                  exact Array.toList_eq_nil_iff.1 (List.length_eq_zero_iff.1 this)
                have hcs:cs'=cs:=by
                  rw [Wa,if_pos hle] at hp
                  injection hp with hp
                  rw [← hp];simp
                subst hcs
                refine ⟨w,?_,GA hr e hm (by rw [hc];rfl) ⟨ccs,fr,h1,h2,fun _=>h3,hmv⟩⟩
                have hs0:(T t).size=0:=by rw [← c1];rfl
                simp only [Instr.storeAt,Instr.sureAddr,Sem.run_bind,Sem.run_pure,Result.andThen_ok,storeVar,Q6 hT ht,Sem.run_ite,hv0,hs0]
                simp [storeCells]
              have hpos:0 < xs.length:=List.length_pos_iff.2 h0
              have hsz:d+off+xs.length≤ccs.size:=by
                obtain ⟨v,hv,_⟩:=h2 (off+xs.length - 1) _ (List.getElem?_eq_getElem (by omega))
                have:=(Array.getElem?_eq_some_iff.1 hv).1;omega
              have hone:∀ v∈vx.cells.toList,v.oneCell'=true:=by
                intro v hv
                obtain ⟨j,hj⟩:=List.getElem?_of_mem hv
                have hj':j < xs.length:=by have:=(List.getElem?_eq_some_iff.1 hj).1;omega
                obtain ⟨v',hv',hvr⟩:=AV.relL_get hcr j _ (List.getElem?_eq_getElem hj')
                rw [hj] at hv';injection hv' with hv';subst hv'
                exact Qc4 (Kf c2 _ (List.getElem_mem hj')) hvr
              obtain ⟨w',e1,e2,e3⟩:=Zx (P:=P) b (d+off) t' fr vx.cells.toList 0 w ccs h1 (by omega) (fun j hj hj'=>h3 j (by omega) (by omega)) hone
              refine ⟨w',?_,?_⟩
              · have hne : ¬ vx.cells.size ≠ (T t).size := by
                  have:vx.cells.size=xs.length:=by simpa using hlen
                  omega
                simp only [Instr.storeAt,Instr.sureAddr,Sem.run_bind,Sem.run_pure,Result.andThen_ok,storeVar,Q6 hT ht,Sem.run_ite,hne,if_false,e1]
              · refine Yd hr e hm (by rw [hc]; rfl) e2.os e2.tape e2.output e2.size e2.other (WF h1 e3 (YQ (by simp at *; omega))) ?_
                exact XV hp h2 hcr h3 (by simpa using e3) (by omega) hmv
            · cases e
          · cases e
        · cases e
      · cases e
    · rename_i t' fz sg s hc
      rw [hc] at hb
      obtain ⟨ccs,fr,l,h1,rfl,h2,h3,h4⟩:=hb
      split at e
      · rename_i c
        simp only [Str.brec] at e
        split at e
        · rename_i c1; rw [QH] at c1
          split at e
          · rename_i c2; rw [Qk] at c2
            split at e
            · rename_i c3; rw [QH] at c3
              split at e
              · rename_i c4; rw [Nat.beq_eq] at c4
                have h3:=h3 (WH hr e)
                have c1:off < l.length:=c1
                have hv:=h2 off l[off] (by simp [c1])
                have hsz:=(Array.getElem?_eq_some_iff.1 hv).1
                simp only [AV.rel] at hx;subst hx
                obtain ⟨w',e1,e2,e3⟩:=Zx (P:=P) b (d+off) t' fr [.int .u8 (Int.ofNat c)] 0 w ccs h1 (by simp;omega) (fun j hj hj'=>by simp at hj';exact h3 j (by omega) (by omega)) (by simp [Value.oneCell'])
                refine ⟨w',?_,?_⟩
                · have hne : ¬ (Value.int .u8 (Int.ofNat c)).cells.size ≠ (T t).size := by rw [c4]; simp [Value.cells]
                  simp only [Instr.storeAt,Instr.sureAddr,Sem.run_bind,Sem.run_pure,Result.andThen_ok,storeVar,Q6 hT ht,Sem.run_ite,hne,if_false]
                  exact e1
                · refine Yd hr e hm (by rw [hc]; rfl) e2.os e2.tape e2.output e2.size e2.other (WF h1 e3 (YQ (by simp at *; omega))) ?_
                  have hcb:(UInt8.ofNat c).toNat=c:=by simp [Nat.mod_eq_of_lt c3]
                  refine ⟨_,fr,l.set off (UInt8.ofNat c),by simpa using e3,by rw [← Str.set_of l off _ c1,hcb],fun i x hx=>?_,?_,h4⟩
                  · simp only [List.getElem?_toArray]
                    rw [List.getElem?_set] at hx
                    have hto:(ccs.toList.take (d+off)).length=d+off:=by simp;omega
                    rcases Nat.lt_trichotomy i off with hi | hi | hi
                    · rw [if_neg (by omega)] at hx
                      rw [List.getElem?_append_left (by omega),List.getElem?_take,if_pos (by omega)]
                      simpa using h2 i x hx
                    · subst hi
                      rw [if_pos rfl,if_pos c1] at hx
                      injection hx with hx;subst hx
                      rw [List.getElem?_append_right (by omega),hto]
                      simp [hcb]
                    · rw [if_neg (by omega)] at hx
                      rw [List.getElem?_append_right (by omega),hto,show d+i - (d+off)=(i - off - 1)+1 from by omega]
                      simp only [List.getElem?_cons_succ,List.getElem?_drop]
                      rw [show d+off+1+(i - off - 1)=d+i from by omega]
                      simpa using h2 i x hx
                  · intro _ o ho1 ho2
                    refine h3 o ho1 ?_
                    simp at ho2;omega
              · cases e
            · cases e
          · cases e
        · cases e
      · cases e
    · cases e
  · cases e
theorem toStr_ok {s t e : TypeId} {a r : AV} {x : Value} {h : H} {w : World} (hT : YN P T) (hs : (T s).kd = .slice e) (hk : (T e).kd = .int .u8) (ht : (T t).kd = .str) (hr : Rel μ h w) (ee : UH a h = some r) (ha : AV.rel μ a x) :
    ∃ v,(convert s t x).run P w=.ok v w∧r.rel μ v:=by
  obtain ⟨_,h1,rfl⟩:=QJ hT hs rfl
  obtain ⟨_,h2,rfl⟩:=QJ hT ht rfl
  obtain ⟨_,h3,rfl⟩:=QJ hT hk rfl
  unfold UH at ee
  split at ee
  · injection ee with ee; subst ee
    simp only [AV.rel] at ha;subst ha
    refine ⟨.string .empty,?_,by simp only [AV.rel];exact ⟨_,rfl,rfl⟩⟩
    simp [convert,run_underlying h1,run_underlying h2,run_underlying h3,Conv.bytesToString]
  · rename_i id off len cap es ex
    split at ee
    · rename_i t' fz sg s' hc
      rw [Str.brec] at ee
      split at ee
      · rename_i c1; rw [Qk] at c1
        injection ee with ee;subst ee
        simp only [AV.rel] at ha
        obtain ⟨b,d,c,o,qa,hm,rfl,hodd,ho,hle,hex,hlen,_⟩:=ha
        have hb:=hr.blk id b d hm
        rw [hc] at hb
        obtain ⟨ccs,fr,l,e1,rfl,e2,_⟩:=hb
        have c1:off+len≤l.length:=c1
        refine ⟨.string ⟨((l.take (off+len)).drop off).toArray⟩,?_,by
          simp only [AV.rel]
          exact ⟨_,rfl,by show Str.sub (Str.of l) off (off+len)=_;rw [Str.sub_of _ _ _ (by omega) c1]⟩⟩
        have hlist:((l.take (off+len)).drop off).length=len:=by simp;omega
        have hcell:∀ j v,(((l.take (off+len)).drop off).map fun u=>Value.int .u8 u.toNat)[j]?=some v→w.cell? (qa.add j)=some v:=by
          intro j v hj
          rw [List.getElem?_map,Option.map_eq_some_iff] at hj
          obtain ⟨u,hu,rfl⟩:=hj
          have hjl:j < len:=by have:=(List.getElem?_eq_some_iff.1 hu).1;omega
          have ho:=ho (by omega)
          subst ho
          obtain rfl:=hodd.resolve_right (by omega)
          rw [List.getElem?_drop,List.getElem?_take] at hu
          split at hu
          · rw [ZM,Nat.add_assoc];exact JF e1 (e2 _ _ hu)
          · cases hu
        have hload:=run_loadCells_list (P:=P) w qa _ hcell
        rw [List.length_map,hlist] at hload
        have hloop:∀ (f:Value→ByteArray→Sem (ForInStep ByteArray)),(∀ (u:UInt8) acc,f (.int .u8 u.toNat) acc=pure (.yield (acc.push u)))→∀ (us:List UInt8) (acc:ByteArray),
            (forIn (m:=Sem) (us.map fun u=>Value.int .u8 u.toNat) acc f).run P w=.ok ⟨(acc.data.toList++us).toArray⟩ w:=by
          intro f hf us
          induction us with
          | nil=>intro acc;simp
          | cons u us ih =>
            intro acc
            simp only [List.map_cons,List.forIn_cons,Sem.run_bind,hf,Sem.run_pure,Result.andThen_ok]
            rw [ih]
            simp
        simp only [convert,run_underlying h1,run_underlying h2,run_underlying h3,Conv.bytesToString,Sem.run_bind,Result.andThen_ok,hload]
        rw [← Array.forIn_toList]
        rw [hloop _ (fun u acc=>by simp)]
        simp
      · cases ee
    · cases ee
  · cases ee
end
end Go.Am
namespace Go.Am
open Go
theorem Dz {μ : Mu} {h h1 h2 : H} {w w' : World} {id n b d o : Nat} {k : Blk} (hr : Rel μ h w) (hp : h.put id .dead = some h1) (hq : h1.push k = some (n, h2)) (hm : μ id = some (b, d)) (hl : (h.get id).live = true)
    (hs:Same w w' b) (hc:∀ ccs t fr,w'.heap[b]?=some (.cells ccs t fr)→∃ ccs' t' fr',w.heap[b]?=some (.cells ccs' t' fr')∧ccs'.size=ccs.size) (hk:BlkRel (upd μ h.next (b,o) (μ.sz id)) w' b o k):n=h.next∧Post μ h w (upd μ h.next (b,o) (μ.sz id)) h2 w':=by
  obtain ⟨hi,hb,e1,e2,wf1,hg1⟩:=H.put_some hp hr.wf
  obtain ⟨rfl,e3,e4,wf2,hg2⟩:=H.push_some hq wf1
  rw [e1] at hg2 e3
  have hbs:=(hr.dom id b d hm).2
  have hg:∀ i,h2.get i=if i=h.next then k else if i=id then .dead else h.get i:=fun i=>by rw [hg2,hg1]
  have hmono:Le μ (upd μ h.next (b,o) (μ.sz id)):=Un _ _ fun p hmi=>by
    have:=(hr.dom _ p.1 p.2 hmi).1;omega
  have hold:∀ i c e,i≠h.next→upd μ h.next (b,o) (μ.sz id) i=some (c,e)→(h2.get i).live=true→μ i=some (c,e)∧i≠id∧(h.get i).live=true:=by
    intro i c e hne hmi hli
    rw [ZF _ _ _ hne] at hmi
    rw [hg,if_neg hne] at hli
    by_cases ei:i=id
    · rw [if_pos ei] at hli;cases hli
    · rw [if_neg ei] at hli;exact ⟨hmi,ei,hli⟩
  refine ⟨e1,fun i hi'=>⟨ZF _ _ _ (by omega),Wq _ _ _ (by omega)⟩,⟨wf2,?_,?_,?_,?_,hr.glb.step (by omega) (fun i hi=>by have:=hr.wf.low;rw [hg,if_neg (by omega),if_neg (by omega)]) (fun i hi=>ZF _ _ _ (by have:=hr.wf.low;omega))⟩,⟨hs.os,hs.tape,hs.output,Nat.le_of_eq hs.size.symm,fun c _ hn=>hs.other c ?_⟩,⟨by omega,by omega,fun i hi' hmi=>?_,fun i hi'=>?_,fun i hi' hli=>?_⟩,?_⟩
  · intro i c e hmi
    by_cases ei:i=h.next
    · subst ei; rw [Ze] at hmi; injection hmi with hmi; injection hmi with ec ee; subst ec ee
      exact ⟨by omega,by rw [hs.size];exact hbs⟩
    · rw [ZF _ _ _ ei] at hmi
      have:=hr.dom i c e hmi;exact ⟨by omega,by rw [hs.size];exact this.2⟩
  · intro i j c e e' hmi hmj hli hlj hbj
    by_cases ei:i=h.next <;> by_cases ej:j=h.next
    · rw [ei,ej]
    · subst ei; rw [Ze] at hmi; injection hmi with hmi; injection hmi with ec _; subst ec
      obtain ⟨h1',h2',h3'⟩:=hold j _ _ ej hmj hlj
      exact absurd (hr.inj j id _ _ _ h1' hm h3' hl hb) h2'
    · subst ej; rw [Ze] at hmj; injection hmj with hmj; injection hmj with ec _; subst ec
      obtain ⟨h1',h2',h3'⟩:=hold i _ _ ei hmi hli
      exact absurd (hr.inj i id _ _ _ h1' hm h3' hl hb) h2'
    · obtain ⟨h1', _, h3'⟩ := hold i _ _ ei hmi hli
      obtain ⟨h4',_,h6'⟩:=hold j _ _ ej hmj hlj
      exact hr.inj i j _ _ _ h1' h4' h3' h6' (by omega)
  · intro i c e hmi
    rw [hg,show h2.base=h.base from by omega]
    by_cases ei:i=h.next
    · subst ei; rw [Ze] at hmi; injection hmi with hmi; injection hmi with ec ee; subst ec ee
      rw [if_pos rfl];exact hk.any
    · rw [if_neg ei]
      by_cases ei':i=id
      · rw [if_pos ei'];trivial
      · rw [if_neg ei']
        rw [ZF _ _ _ ei] at hmi
        cases hli:(h.get i).live with
        | false =>
          have:h.get i=.dead:=by revert hli;cases h.get i <;> simp [Blk.live]
          rw [this];trivial
        | true =>
          exact (hr.blk i c e hmi).mono hmono fun _=>hs.other c (fun ec=>by
            subst ec;exact ei' (hr.inj i id _ _ _ hmi hm hli hl hb))
  · have cntb : ∀ ccs t fr, w'.heap[b]? = some (.cells ccs t fr) → ∀ i e, μ i = some (b, e) → ccs.size = μ.sz i := by
      intro ccs t fr hw i e hmi
      obtain ⟨ccs',t',fr',q1,q2⟩:=hc ccs t fr hw
      rw [← q2];exact hr.cnt i b e _ _ _ hmi q1
    intro i c e ccs t fr hmi hw
    by_cases ei:i=h.next
    · subst ei; rw [Ze] at hmi; injection hmi with hmi; injection hmi with ec ee; subst ec ee
      rw [UW];exact cntb ccs t fr hw id d hm
    · rw [ZF _ _ _ ei] at hmi; rw [Wq _ _ _ ei]
      by_cases ec:c=b
      · subst ec;exact cntb ccs t fr hw i e hmi
      · exact hr.cnt i c e ccs t fr hmi (by rw [← hs.other c ec];exact hw)
  · intro ec; subst ec
    have:=hn id d hb hm;rw [hl] at this;cases this
  · rw [hg,if_neg (by omega),if_neg];intro e;subst e;rw [hm] at hmi;cases hmi
  · have := hr.wf.low
    rw [hg,if_neg (by omega),if_neg (by omega)]
  · by_cases ei : i = id
    · subst ei;exact hl
    · rwa [hg,if_neg (by omega),if_neg ei] at hli
  · intro i c e hi' hmi hc hli
    by_cases ei:i=h.next
    · subst ei; rw [Ze] at hmi; injection hmi with hmi; injection hmi with ec ee; subst ec ee
      exact ⟨id,d,hb,hm,hl⟩
    · rw [ZF _ _ _ ei] at hmi;exact absurd (hr.dom i c e hmi).1 (by omega)
section
variable {P:Program}
structure Src (P:Program) (size:Nat) (w:World) (x:Value) (n:Nat) (news:Array Value):Prop where
  len:∀ w',(Builtin.lenOf x).run P w'=.ok n w'
  cells:∀ w',w'.heap=w.heap→(Builtin.firstCells size n x).run P w'=.ok news w'
  size:news.size=n * size
theorem YE {w:World} {t t2 ty e:TypeId} {i:TypeInfo} {z:Value} {s x:Value} {base:Option Addr} {sLen sCap n:Nat} {olds news:Array Value} {d2:TypeDesc}
    (ht:P.underlying t=some (.slice e)) (ht2:P.underlying t2=some d2) (hd2:∀ k,d2≠.int k) (hi:P.info? e=some i) (hz:i.zero=some z) (hs:s=.slice base sLen sCap)
    (ho:∀ w',w'.heap=w.heap→(Builtin.firstCells i.size sLen s).run P w'=.ok olds w') (hx:Src P i.size w x n news) (hg:sCap < sLen+n) (hb:(sLen+n) * i.bytes≤140737488355328) (h63:((sLen+n:Nat):Int)≤9223372036854775807) :
    ∃ cap, sLen + n ≤ cap ∧ (Builtin.append_ #[t, t2] ty #[s, x]).run P w = .ok (.slice (some ⟨w.heap.size, 0, none⟩) (sLen + n) cap)
      (w.drew.alloc (.cells (olds++news++Builtin.zeroCells z.cells (cap - (sLen+n))) e)):=by
  subst hs
  refine ⟨grownCap w (sLen+n) sCap e,grownCap_ge _ _ _ _,?_⟩
  have hn:¬ (sLen+n≤sCap):=by omega
  have hfit:=growslice_fits hg hb
  have h63':¬ (9223372036854775807 < ((sLen:Int)+(n:Int))):=by omega
  have h48':¬ (281474976710656 < Builtin.nextslicecap (sLen+n) sCap * i.bytes):=by omega
  have hf:=hx.cells w.drew rfl
  have hfo:=ho w.drew rfl
  simp [Builtin.append_,run_underlying ht,run_underlying ht2,sizeOf,typeInfo,zeroValue,hi,hz,hx.len,hn,h63',h48',Question.forced,hf,hfo,newRow,grownCap]
theorem Z0 {w w':World} {t t2 ty e:TypeId} {i:TypeInfo} {x:Value} {qa:Addr} {sLen sCap n:Nat} {news:Array Value} {d2:TypeDesc}
    (ht:P.underlying t=some (.slice e)) (ht2:P.underlying t2=some d2) (hd2:∀ k,d2≠.int k) (hi:P.info? e=some i)
    (hx:Src P i.size w x n news) (hg:sLen+n≤sCap) (hst:(storeCells (qa.add (sLen * i.size)) news.toList).run P w=.ok () w') :
    (Builtin.append_ #[t,t2] ty #[.slice (some qa) sLen sCap,x]).run P w=.ok (.slice (some qa) (sLen+n) sCap) w':=by
  have hf:=hx.cells w rfl
  simp [Builtin.append_,run_underlying ht,run_underlying ht2,sizeOf,typeInfo,hi,hx.len,hg,hf,hst]
theorem Jl {w:World} {t t2 ty e:TypeId} {i:TypeInfo} {x:Value} {news:Array Value} {d2:TypeDesc}
    (ht:P.underlying t=some (.slice e)) (ht2:P.underlying t2=some d2) (hd2:∀ k,d2≠.int k) (hi:P.info? e=some i)
    (hx:Src P i.size w x 0 news):(Builtin.append_ #[t,t2] ty #[.slice none 0 0,x]).run P w=.ok (.slice none 0 0) w:=by
  have hf:=hx.cells w rfl
  simp [Builtin.append_,run_underlying ht,run_underlying ht2,sizeOf,typeInfo,hi,hx.len,hf]
variable {T:Ty} (hT:YN P T) {μ:Mu}
theorem VG {w w':World} {b o len size c:Nat} {t:TypeId} {fr:Nat × Nat} {ccs:Array Value} {vs:List Value} (hw:w'.heap=w.heap) (h:w.heap[b]?=some (.cells ccs t fr)) (hl:vs.length=len * size)
    (hv:∀ j v,vs[j]?=some v→ccs[o+j]?=some v):(Builtin.firstCells size len (.slice (some ⟨b,o,none⟩) len c)).run P w'=.ok vs.toArray w':=by
  have:=run_loadCells_list (P:=P) w' ⟨b,o,none⟩ vs (fun j v hj=>by
    rw [ZM];exact JF (by rw [hw];exact h) (hv j v hj))
  rw [hl] at this
  exact this
theorem Uz {w':World} {len size c:Nat} {a:Option Addr} (h0:len=0):(Builtin.firstCells size len (.slice a len c)).run P w'=.ok #[] w':=by
  subst h0
  cases a with
  | none=>rfl
  | some a=>simp only [Builtin.firstCells,Nat.zero_mul];rfl
theorem QcO {x : AV} {v : Value} {h : H} {w : World} {s : Str} (hr : Rel μ h w) (e : D8 x h = some s) (hx : x.rel μ v) : ∃ l : List UInt8, s = Str.of l ∧ Src P 1 w v l.length (l.map fun u => Value.int .u8 u.toNat).toArray := by
  unfold D8 at e
  split at e
  · injection e with e; subst e
    simp only [AV.rel] at hx
    obtain ⟨b,rfl,rfl⟩:=hx
    refine ⟨b.data.toList,rfl,fun w'=>rfl,fun w' _=>?_,by simp⟩
    simp only [Builtin.firstCells,Sem.run_pure]
    congr 1
    apply Array.ext'
    simp
  · injection e with e; subst e
    simp only [AV.rel] at hx;subst hx
    exact ⟨[],rfl,fun w'=>rfl,fun w' _=>rfl,by simp⟩
  · rename_i id off len cap es ex
    split at e
    · rename_i t fz sg s' hc
      rw [Str.brec] at e
      split at e
      · rename_i c1; rw [Qk] at c1
        injection e with e;subst e
        simp only [AV.rel] at hx
        obtain ⟨b,d,c,o,qa,hm,rfl,hodd,ho,hcc,_,hle,_,_⟩:=hx
        have hb:=hr.blk id b d hm
        rw [hc] at hb
        obtain ⟨ccs,fr,l,h1,rfl,h2,_⟩:=hb
        have c1:off+len≤l.length:=c1
        have hlen:((l.take (off+len)).drop off).length=len:=by simp;omega
        refine ⟨(l.take (off+len)).drop off,Str.sub_of _ _ _ (Nat.le_add_right off len) c1,fun w'=>by rw [hlen];rfl,fun w' hw=>?_,by rw [List.size_toArray,List.length_map,Nat.mul_one]⟩
        rw [hlen]
        rcases Nat.eq_zero_or_pos len with h0 | h0
        · rw [Uz h0]
          have:(l.take (off+len)).drop off=[]:=List.length_eq_zero_iff.1 (by omega)
          rw [this];rfl
        · have ho := ho (by omega)
          subst ho
          obtain rfl:=hodd.resolve_right (by omega)
          refine VG hw h1 (by simp;omega) fun j v hj=>?_
          rw [List.getElem?_map,Option.map_eq_some_iff] at hj
          obtain ⟨u,hu,rfl⟩:=hj
          rw [List.getElem?_drop,List.getElem?_take] at hu
          split at hu
          · rw [Nat.add_assoc];exact h2 _ _ hu
          · cases hu
      · cases e
    · cases e
  · cases e
theorem srcC_ok {size : Nat} {x : AV} {v : Value} {h : H} {w : World} {n : Nat} {as : List AV} (hr : Rel μ h w) (e : Qb5 size x h = some (n, as)) (hx : x.rel μ v) : ∃ vs : List Value, AV.relL μ as vs ∧ Src P size w v n vs.toArray := by
  unfold Qb5 at e
  split at e
  · injection e with e; injection e with e1 e2; subst e1 e2
    simp only [AV.rel] at hx;subst hx
    exact ⟨[],AV.relL_nil.2 rfl,fun w'=>rfl,fun w' _=>rfl,by simp⟩
  · rename_i id off len cap es ex
    split at e
    · rename_i t cs hc
      simp only [Vk,Uc,Nat.mul_eq] at e
      split at e
      · rename_i l hl
        split at hl
        · rename_i hle
          injection hl with hl;injection e with e;injection e with e1 e2;subst hl e1 e2
          simp only [AV.rel] at hx
          obtain ⟨b,d,c,o,qa,hm,rfl,hodd,ho,hcc,_,hlc,_,_⟩:=hx
          have hb:=hr.blk id b d hm
          rw [hc] at hb
          obtain ⟨ccs,fr,h1,h2,_⟩:=hb
          have hlen:((cs.drop off).take (len * size)).length=len * size:=by
            rw [List.length_take,List.length_drop] at *;exact Nat.min_eq_left hle
          let vs:=(List.range (len * size)).map fun j=>ccs[d+off+j]?.getD undef
          have hvl:vs.length=len * size:=by simp [vs]
          have key:∀ j a,((cs.drop off).take (len * size))[j]?=some a→∃ v,vs[j]?=some v∧ccs[d+off+j]?=some v∧AV.rel μ a v:=by
            intro j a hj
            have hjl:j < len * size:=by have:=(List.getElem?_eq_some_iff.1 hj).1;rw [hlen] at this;exact this
            rw [List.getElem?_take,if_pos hjl,List.getElem?_drop] at hj
            obtain ⟨v,hv,hvr⟩:=h2 _ _ hj
            rw [← Nat.add_assoc] at hv
            exact ⟨v,by simp [vs,hjl,hv],hv,hvr⟩
          refine ⟨vs,AV.relL_of_get (by rw [hvl,hlen]) fun j a hj=>let ⟨v,hv,_,hvr⟩:=key j a hj;⟨v,hv,hvr⟩,fun w'=>rfl,fun w' hw=>?_,by simp [vs]⟩
          rcases Nat.eq_zero_or_pos len with h0 | h0
          · rw [Uz h0];simp [vs,h0]
          · have ho := ho (by omega)
            subst ho
            obtain rfl:=hodd.resolve_right (by omega)
            refine VG hw h1 hvl fun j v hj=>?_
            have hjl:j < len * size:=by have:=(List.getElem?_eq_some_iff.1 hj).1;omega
            obtain ⟨v',h3,h4,_⟩:=key j _ (List.getElem?_eq_getElem (by rw [hlen];exact hjl))
            rw [hj] at h3;injection h3 with h3;subst h3;exact h4
        · cases hl
      · cases e
    · cases e
  · cases e
end
end Go.Am
