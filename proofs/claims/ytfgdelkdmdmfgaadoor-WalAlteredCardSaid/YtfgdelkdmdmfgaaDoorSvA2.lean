import Derived.Test.YtfgdelkdmdmfgaaDoorAmL7
import Derived.Test.YtfgdelkdmdmfgaaDoorVxC
namespace Go.Am
open Go
set_option linter.all false
def RowAt {α:Type} (f:α→List AV) (es:Nat) (h:H) (v:AV) (l:List α):Prop :=
  (v=.nils∧l=[])∨∃ id c ex m t,v=.slice id 0 l.length c es ex∧h.get id=.cells m t (l.flatMap f)∧id < h.next
theorem RowAt.len {α:Type} {f:α→List AV} {es:Nat} {h:H} {v:AV} {l:List α} (q:RowAt f es h v l) (k:Nat→Prop):ZH v k=k l.length:=by
  rcases q with ⟨rfl,rfl⟩ | ⟨id,c,ex,m,t,rfl,q2,q3⟩ <;> rfl
theorem ZS {α:Type} {f:α→List AV} {es:Nat} (hf:∀ a,(f a).length=es):∀ l:List α,(l.flatMap f).length=l.length * es
  | []=>by simp
  | a::l=>by rw [List.flatMap_cons,List.length_append,hf,ZS hf l,List.length_cons,Nat.add_mul];omega
theorem KY {α:Type} {f:α→List AV} {es:Nat} (hf:∀ a,(f a).length=es):∀ (l:List α) (i:Nat),(l.flatMap f).drop (i * es)=(l.drop i).flatMap f
  | l,0=>by simp
  | [],i+1=>by simp
  | a :: l, i + 1 => by
    rw [List.flatMap_cons,show (i+1) * es=(f a).length+i * es from by rw [hf,Nat.add_mul];omega,List.drop_length_add_append,KY hf l i];rfl
theorem NM {α:Type} {f:α→List AV} {es:Nat} (hf:∀ a,(f a).length=es) (l:List α) {i:Nat} (hi:i < l.length):((l.flatMap f).drop (i * es)).take es=f l[i]:=by
  rw [KY hf,List.drop_eq_getElem_cons hi,List.flatMap_cons,← hf l[i],List.take_left']
  rfl
theorem Y4 {α:Type} {l:List α} {n:Nat} (h:n≤l.length):Z4 n l=some (l.take n):=by rw [Vk,if_pos h]
theorem WM {α:Type} (l:List α) (n:Nat):Yh n l=l.drop n:=Uc n l
theorem ixKn {id len cap es i:Nat} {ex:Bool} {kk:IntKind} (hi:i < len) (k:AV→Prop):ixK es (.slice id 0 len cap es ex) (.int kk (Int.ofNat i)) k=k (.ptr id (i * es)):=by
  show ck (Nat.blt i len) (fN (Nat.add 0 (Nat.mul i es)) fun o=>k (.ptr id o))=_
  rw [(QH _ _).2 hi,Zb]
  have e:Nat.add 0 (Nat.mul i es)=i * es:=by show 0+i * es=i * es;omega
  rw [e];rfl
theorem RowAt.ix {α:Type} {f:α→List AV} {es:Nat} (hf:∀ a,(f a).length=es) {h:H} {v:AV} {l:List α} (q:RowAt f es h v l) {i:Nat} (hi:i < l.length) :
    ∃ id o m t cs,(∀ (kk:IntKind) (k:AV→Prop),ixK es v (.int kk (Int.ofNat i)) k=k (.ptr id o))∧h.get id=.cells m t cs∧id < h.next∧Z4 es (Yh o cs)=some (f l[i]):=by
  rcases q with ⟨rfl,rfl⟩ | ⟨id,c,ex,m,t,rfl,q2,q3⟩
  · simp at hi
  · refine ⟨id, i * es, m, t, _, fun kk k => ixKn hi k, q2, q3, ?_⟩
    rw [WM,Y4,NM hf l hi]
    rw [List.length_drop,ZS hf]
    have:(i+1) * es≤l.length * es:=Nat.mul_le_mul_right es hi
    rw [Nat.add_mul] at this;omega
theorem YA {α:Type} {body:(α→List Dfr→H→Prop)→α→List Dfr→H→Prop} (n:Nat) (I:Nat→α→H→Prop) (hn:n≤4000000000000000000)
    (step:∀ i x h self,i < n→I i x h→(∀ x' h',I (i+1) x' h'→self x' [] h')→body self x [] h)
    (last:∀ x h self,I n x h→body self x [] h) {x:α} {h:H} (h0:I 0 x h):J0.lp body x [] h:=by
  refine W0 (fun m x d h=>∃ i,i≤n∧m=n - i∧d=[]∧I i x h) ?_ (n:=n) (by unfold fuel;omega) ⟨0,Nat.zero_le _,rfl,rfl,h0⟩
  rintro m self x d h ⟨i,hi,rfl,rfl,hI⟩ hs
  rcases Nat.lt_or_ge i n with hlt | hge
  · exact step i x h self hlt hI fun x' h' hI'=>hs (n - (i+1)) x' [] h' (by omega) ⟨i+1,hlt,rfl,rfl,hI'⟩
  · obtain rfl : i = n := by omega
    exact last x h self hI
theorem ZA {a b:Nat} (h:a < b):ltI (Int.ofNat a) (Int.ofNat b)=true:=WK.2 (by show (a:Int) < (b:Int);omega)
theorem Za {a b:Nat} (h:b≤a):ltI (Int.ofNat a) (Int.ofNat b)=false:=Ys.2 (by show (b:Int)≤(a:Int);omega)
theorem Ud (i:Nat) (h:i < 9000000000000000000):Qd .i64 (Int.add (Int.ofNat i) (Int.ofNat 1))=Int.ofNat (i+1):=by
  have:Int.add (Int.ofNat i) (Int.ofNat 1)=Int.ofNat (i+1):=rfl
  rw [this];exact Zi (kk:=.i64) (by show i+1 < 9223372036854775808;omega)
theorem dec_i (i:Nat) (h:i < 9000000000000000000):Qd .i64 (Int.sub (Int.ofNat (i+1)) (Int.ofNat 1))=Int.ofNat i:=by
  have:Int.sub (Int.ofNat (i+1)) (Int.ofNat 1)=Int.ofNat i:=by
    show ((i+1:Nat):Int) - ((1:Nat):Int)=(i:Int);omega
  rw [this];exact Zi (kk:=.i64) (by show i < 9223372036854775808;omega)
theorem QdJ (l:List UInt8):Str.beq (Str.of l) ⟨0,0⟩=decide (l=[]):=by
  have h:Str.beq (Str.of l) (Str.of [])=(l == []):=Str.beq_of l []
  have h2:Str.beq (Str.of l) ⟨0,0⟩=(l == []):=h
  rw [h2];cases l <;> rfl
end Go.Am
namespace Go.Am
open Go
set_option linter.all false
def Grow {α:Type} (f:α→List AV) (e es n:Nat) (h:H) (v:AV) (l:List α):Prop :=
  (v=.nils∧l=[])∨∃ id m,v=.slice id 0 l.length l.length es false∧n≤id∧id < h.next∧h.get id=.cells m e (l.flatMap f)
theorem Grow.nil {α:Type} (f:α→List AV) (e es n:Nat) (h:H):Grow f e es n h .nils []:=.inl ⟨rfl,rfl⟩
theorem Grow.row {α:Type} {f:α→List AV} {e es n:Nat} {h:H} {v:AV} {l:List α} (g:Grow f e es n h v l):RowAt f es h v l:=by
  rcases g with g | ⟨id,m,g1,_,g3,g4⟩
  · exact .inl g
  · exact .inr ⟨id,_,false,m,e,g1,g4,g3⟩
theorem Grow.keep {α:Type} {f:α→List AV} {e es n:Nat} {h h':H} {v:AV} {l:List α} (g:Grow f e es n h v l) {n':Nat} (lo:Low n' h h') (hn:h.next≤n'):Grow f e es n h' v l:=by
  rcases g with g | ⟨id,m,g1,g2,g3,g4⟩
  · exact .inl g
  · exact .inr ⟨id,m,g1,g2,Nat.lt_of_lt_of_le g3 lo.next,(lo.get id (by omega)).trans g4⟩
theorem G4 (a b:Blk):∀ (f k:Nat),k≤f→Tr.set (Tr.sing a f k) k b=Tr.sing b f k
  | 0,0,_=>rfl
  | f+1,0,_=>rfl
  | 0,k+1,h=>by omega
  | f + 1, k + 1, h => by
    rw [Tr.sing_succ,Tr.sing_succ]
    by_cases e:k % 2=0
    · rw [if_pos e,if_pos e,Tr.set_nd_succ,if_pos e,G4 a b f (k / 2) (by omega)]
    · rw [if_neg e,if_neg e,Tr.set_nd_succ,if_neg e,G4 a b f (k / 2) (by omega)]
theorem Qai (a b:Blk):∀ (t:Tr) (k:Nat),Tr.set (Tr.set t k a) k b=Tr.set t k b
  | .lf,k=>G4 a b k k (Nat.le_refl k)
  | .nd v l r,0=>rfl
  | .nd v l r, k + 1 => by
    rw [Tr.set_nd_succ,Tr.set_nd_succ]
    by_cases e:k % 2=0
    · rw [if_pos e,if_pos e,Tr.set_nd_succ,if_pos e,Qai a b l (k / 2)]
    · rw [if_neg e,if_neg e,Tr.set_nd_succ,if_neg e,Qai a b r (k / 2)]
theorem put_push (h:H) (b c:Blk):Zt (QI h b) h.next c=QI h c:=by
  show (⟨Tr.set (Tr.set h.mem h.next b) h.next c,Nat.succ h.next,h.base⟩:H)=⟨Tr.set h.mem h.next c,Nat.succ h.next,h.base⟩
  rw [Qai]
theorem Qds (h:H) (b:Blk):(QI h b).get h.next=b:=by rw [ZG,if_pos rfl]
theorem Qae {h:H} {o n:Nat} {m:Bool} {t:Nat} {cs cs' xs:List AV} (h0:xs.length=n) (h1:ZV xs=true) (e:Q7 o xs cs=some cs') (hb:h.base≤h.next) (k:H→Prop) :
    stN n (.ptr h.next o) xs (QI h (.cells m t cs)) k=k (QI h (.cells m t cs')):=by
  rw [Qaf (Qds h _) h0 h1 e (Nat.lt_succ_self _) hb,put_push]
theorem st2_new {h:H} {m:Bool} {t:Nat} {a b x y:AV} (h1:ZV [x,y]=true) (hb:h.base≤h.next) (k:H→Prop):stN 2 (.ptr h.next 0) [x,y] (QI h (.cells m t [a,b])) k=k (QI h (.cells m t [x,y])) :=
  Qae (n:=2) rfl h1 rfl hb k
theorem st3_new {h:H} {m:Bool} {t:Nat} {a b c x y z:AV} (h1:ZV [x,y,z]=true) (hb:h.base≤h.next) (k:H→Prop):stN 3 (.ptr h.next 0) [x,y,z] (QI h (.cells m t [a,b,c])) k=k (QI h (.cells m t [x,y,z])) :=
  Qae (n:=3) rfl h1 rfl hb k
theorem ld3_new {h:H} {m:Bool} {t:Nat} {x y z:AV} (k:List AV→Prop):ldN 3 (.ptr h.next 0) (QI h (.cells m t [x,y,z])) k=k [x,y,z]:=YB (Qds h _) rfl k
end Go.Am
