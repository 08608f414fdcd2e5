import Derived.Test.YtfgdelkdmdmfgaaDoorKpD
import Derived.Test.YtfgdelkdmdmfgaaDoorKpL
namespace Go.Am
open Go
set_option linter.all false
def n1 (x:Nat):Nat:=(x / 2) ^^^ (if x % 2=1 then 2197175160 else 0)
def nN:Nat→Nat→Nat
  | 0,x=>x
  | k+1,x=>nN k (n1 x)
theorem div2_xor (a b:Nat):(a ^^^ b) / 2=a / 2 ^^^ b / 2:=by
  have:=Nat.shiftRight_xor_distrib (a:=a) (b:=b) (i:=1)
  simpa [Nat.shiftRight_eq_div_pow] using this
theorem xlc (a b c:Nat):a ^^^ (b ^^^ c)=b ^^^ (a ^^^ c):=by rw [← Nat.xor_assoc,Nat.xor_comm a b,Nat.xor_assoc]
theorem n1_xor (a b:Nat):n1 (a ^^^ b)=n1 a ^^^ n1 b:=by
  unfold n1
  rw [div2_xor]
  have h:(a ^^^ b) % 2=(a % 2) ^^^ (b % 2):=Nat.xor_mod_two_pow (n:=1)
  have ha:a % 2=0∨a % 2=1:=by omega
  have hb:b % 2=0∨b % 2=1:=by omega
  rcases ha with ha | ha <;> rcases hb with hb | hb <;> rw [ha,hb] at h
  · have h : (a ^^^ b) % 2 = 0 := h
    rw [if_neg (by omega),if_neg (by omega),if_neg (by omega)];simp
  · have h : (a ^^^ b) % 2 = 1 := h
    rw [if_pos (by omega),if_neg (by omega),if_pos (by omega),Nat.xor_zero,Nat.xor_assoc]
  · have h : (a ^^^ b) % 2 = 1 := h
    rw [if_pos (by omega),if_pos (by omega),if_neg (by omega),Nat.xor_zero,Nat.xor_assoc,Nat.xor_assoc,Nat.xor_comm (b / 2)]
  · have h : (a ^^^ b) % 2 = 0 := h
    rw [if_neg (by omega),if_pos (by omega),if_pos (by omega),Nat.xor_zero,Nat.xor_assoc,xlc 2197175160,Nat.xor_self,Nat.xor_zero]
theorem Qcj:∀ (k a b:Nat),nN k (a ^^^ b)=nN k a ^^^ nN k b
  | 0,_,_=>rfl
  | k+1,a,b=>by show nN k (n1 (a ^^^ b))=_;rw [n1_xor,Qcj k];rfl
theorem Qcl:∀ (a b x:Nat),nN (a+b) x=nN b (nN a x)
  | 0,b,x=>by rw [Nat.zero_add];rfl
  | a+1,b,x=>by rw [Nat.succ_add];exact Qcl a b (n1 x)
theorem Ny:∀ (k m:Nat),nN k (2 ^ k * m)=m
  | 0,m=>by show 2 ^ 0 * m=m;simp
  | k + 1, m => by
    show nN k (n1 (2 ^ (k+1) * m))=m
    have e:n1 (2 ^ (k+1) * m)=2 ^ k * m:=by
      unfold n1
      rw [Nat.pow_succ,Nat.mul_comm (2 ^ k) 2,Nat.mul_assoc,if_neg (by omega),Nat.xor_zero]
      omega
    rw [e,Ny k]
theorem Qex {x:Nat} (h:x < 2 ^ 32) (h0:x≠0):n1 x < 2 ^ 32∧n1 x≠0:=by
  unfold n1
  by_cases h1:x % 2=1
  · rw [if_pos h1]
    refine ⟨Nat.xor_lt_two_pow (by omega) (by decide),fun e=>?_⟩
    have e2:(x / 2 ^^^ 2197175160) ^^^ 2197175160=0 ^^^ 2197175160:=by rw [e]
    rw [Nat.xor_assoc,Nat.xor_self,Nat.xor_zero,Nat.zero_xor] at e2
    omega
  · rw [if_neg h1,Nat.xor_zero];omega
theorem Qck:∀ (k:Nat) {x:Nat},x < 2 ^ 32→x≠0→nN k x < 2 ^ 32∧nN k x≠0
  | 0,_,h,h0=>⟨h,h0⟩
  | k+1,_,h,h0=>Qck k (Qex h h0).1 (Qex h h0).2
theorem nN_lt (k:Nat) {x:Nat} (h:x < 2 ^ 32):nN k x < 2 ^ 32:=by
  by_cases h0:x=0
  · subst h0
    have:∀ k,nN k 0=0:=by
      intro k
      induction k with
      | zero=>rfl
      | succ k ih=>exact ih
    rw [this];decide
  · exact (Qck k h h0).1
theorem nN_burst {k t a:Nat} (h:t < 2 ^ 32) (h0:t≠0) (hk:t * 2 ^ a < 2 ^ k):nN k (t * 2 ^ a)≠0:=by
  have ha:a≤k:=by
    rcases Nat.lt_or_ge k a with h1 | h1
    · have h2 : 2 ^ k ≤ 2 ^ a := Nat.pow_le_pow_right (by decide) (by omega)
      have h3:1 * 2 ^ a≤t * 2 ^ a:=Nat.mul_le_mul_right _ (by omega)
      omega
    · exact h1
  rw [show k=a+(k - a) by omega,Qcl,Nat.mul_comm,Ny]
  exact (Qck _ h h0).2
def ZO:List UInt8→Nat
  | []=>0
  | c::l=>c.toNat+256 * ZO l
theorem QdK {c:Nat} (k:Nat) (h:c < 2 ^ k) (v:Nat):c+2 ^ k * v=c ^^^ (2 ^ k * v):=by
  apply Nat.eq_of_testBit_eq
  intro j
  rw [Nat.add_comm,Nat.testBit_two_pow_mul_add _ h,Nat.testBit_xor,Nat.testBit_two_pow_mul]
  by_cases hj:j < k
  · rw [if_pos hj,decide_eq_false (by omega)];simp
  · rw [if_neg hj,decide_eq_true (by omega),Nat.testBit_lt_two_pow (Nat.lt_of_lt_of_le h (Nat.pow_le_pow_right (by decide) (by omega)))];simp
theorem Qda (k a b:Nat):2 ^ k * (a ^^^ b)=2 ^ k * a ^^^ 2 ^ k * b:=by
  apply Nat.eq_of_testBit_eq
  intro j
  rw [Nat.testBit_xor,Nat.testBit_two_pow_mul,Nat.testBit_two_pow_mul,Nat.testBit_two_pow_mul,Nat.testBit_xor]
  cases decide (j ≥ k) <;> simp
theorem VV (c:UInt8) (l:List UInt8):ZO (c::l)=c.toNat ^^^ 2 ^ 8 * ZO l:=by
  show c.toNat+2 ^ 8 * ZO l=_
  exact QdK 8 (by have:=c.toNat_lt;omega) _
theorem Gy:∀ l:List UInt8,ZO l < 2 ^ (8 * l.length)
  | []=>by decide
  | c :: l => by
    have:=Gy l
    have:=c.toNat_lt
    show c.toNat+256 * ZO l < 2 ^ (8 * (l.length+1))
    rw [Nat.mul_add,Nat.pow_add]
    show _ < _ * 256
    omega
theorem Gc:∀ (a b:List UInt8),ZO (a++b)=ZO a+2 ^ (8 * a.length) * ZO b
  | [],b=>by show ZO b=0+2 ^ (8 * 0) * ZO b;simp
  | c :: a, b => by
    show c.toNat+256 * ZO (a++b)=c.toNat+256 * ZO a+2 ^ (8 * (a.length+1)) * ZO b
    rw [Gc a b,Nat.mul_add 8,Nat.pow_add,Nat.mul_add,Nat.add_assoc,Nat.mul_comm (2 ^ (8 * a.length)) (2 ^ (8 * 1)),Nat.mul_assoc]
theorem GX:∀ {a b:List UInt8},a.length=b.length→ZO a=ZO b→a=b
  | [],[],_,_=>rfl
  | c :: a, d :: b, h, e => by
    have e:c.toNat+256 * ZO a=d.toNat+256 * ZO b:=e
    have:=c.toNat_lt
    have:=d.toNat_lt
    have h1:c.toNat=d.toNat:=by omega
    have h2:ZO a=ZO b:=by omega
    rw [GX (by simpa using h) h2,UInt8.toNat_inj.1 h1]
theorem Qa0:∀ (l:List UInt8) (i:Nat) (hi:i < l.length) (d:UInt8),ZO (l.set i (l[i] ^^^ d))=ZO l ^^^ (d.toNat * 2 ^ (8 * i))
  | c :: l, 0, _, d => by
    show ZO ((c ^^^ d)::l)=_
    rw [VV,VV,UInt8.toNat_xor,Nat.mul_zero,Nat.pow_zero,Nat.mul_one,Nat.xor_assoc,Nat.xor_assoc,Nat.xor_comm d.toNat]
  | c :: l, i + 1, hi, d => by
    show ZO (c::l.set i (l[i]'(by simpa using hi) ^^^ d))=_
    rw [VV,VV,Qa0 l i (by simpa using hi) d,Qda,← Nat.xor_assoc]
    congr 1
    rw [Nat.mul_add,Nat.pow_add,Nat.mul_comm (2 ^ 8),Nat.mul_assoc]
def nS (s:Nat) (c:UInt8):Nat:=nN 8 (s ^^^ c.toNat)
theorem KW:∀ (l:List UInt8) (s:Nat),l.foldl nS s=nN (8 * l.length) (s ^^^ ZO l)
  | [],s=>by show s=nN 0 (s ^^^ 0);rw [Nat.xor_zero];rfl
  | c :: l, s => by
    show l.foldl nS (nS s c)=nN (8 * (l.length+1)) _
    rw [KW l,Nat.mul_add,Nat.add_comm,Qcl,VV,← Nat.xor_assoc,Qcj 8,Ny]
    rfl
end Go.Am
namespace Go.Proofs.YtfgdelkdmdmfgaaDoor
open Go Go.Am
set_option linter.all false
set_option maxRecDepth 100000
theorem it1_nat {x:Nat} (h:x < 4294967296):it1 (Int.ofNat x)=Int.ofNat (n1 x):=by
  have e1:DM .u32 (Int.ofNat x) (Int.ofNat 1)=Int.ofNat (x % 2):=by
    show Qd .u32 (Int.ofNat (Nat.land (toU .u32 (Int.ofNat x)) (toU .u32 (Int.ofNat 1))))=_
    have t1:toU .u32 (Int.ofNat x)=x:=Nat.mod_eq_of_lt (by show x < 4294967296;exact h)
    have t2:toU .u32 (Int.ofNat 1)=1:=rfl
    rw [t1,t2]
    have:Nat.land x 1=x % 2:=Nat.and_one_is_mod x
    rw [this,UO _ (by omega)]
  have e2:Ve (Int.ofNat x) (Y2 1 (IntKind.bits .u32))=Int.ofNat (x / 2):=by
    rw [show Y2 1 (IntKind.bits .u32)=1 from rfl,WA]
  unfold it1 n1
  rw [e1,e2,W5]
  by_cases h1:x % 2=1
  · rw [if_pos (decide_eq_true h1), if_pos h1]
    show Qd .u32 (Int.ofNat (Nat.xor (toU .u32 (Int.ofNat (x / 2))) (toU .u32 (Int.ofNat 2197175160))))=_
    have t1:toU .u32 (Int.ofNat (x / 2))=x / 2:=Nat.mod_eq_of_lt (by show x / 2 < 4294967296;omega)
    have t2:toU .u32 (Int.ofNat 2197175160)=2197175160:=rfl
    rw [t1,t2,UO]
    · rfl
    · exact Nat.xor_lt_two_pow (n:=32) (by omega) (by decide)
  · rw [if_neg (by rw [decide_eq_false h1];decide),if_neg h1,Nat.xor_zero]
theorem Qdo:∀ (k:Nat) {x:Nat},x < 4294967296→itN k (Int.ofNat x)=Int.ofNat (nN k x)
  | 0,_,_=>rfl
  | k + 1, x, h => by
    show itN k (it1 (Int.ofNat x))=_
    rw [it1_nat h,Qdo k (x:=n1 x) (nN_lt 1 h)];rfl
theorem crcS_nat {s:Nat} (h:s < 4294967296) (c:UInt8):Gu (Int.ofNat s) c=Int.ofNat (nS s c):=by
  have hc:=c.toNat_lt
  unfold Gu nS
  have e:VF .u32 (Int.ofNat s) (Qd .u32 (bI c))=Int.ofNat (s ^^^ c.toNat):=by
    rw [show bI c=Int.ofNat c.toNat from rfl,UO _ (by omega)]
    show Qd .u32 (Int.ofNat (Nat.xor (toU .u32 (Int.ofNat s)) (toU .u32 (Int.ofNat c.toNat))))=_
    have t1:toU .u32 (Int.ofNat s)=s:=Nat.mod_eq_of_lt (by show s < 4294967296;exact h)
    have t2:toU .u32 (Int.ofNat c.toNat)=c.toNat:=Nat.mod_eq_of_lt (by show c.toNat < 4294967296;omega)
    rw [t1,t2,UO]
    · rfl
    · exact Nat.xor_lt_two_pow (n:=32) h (by omega)
  rw [e,Qdo 8 (Nat.xor_lt_two_pow (n:=32) h (by omega))]
theorem nS_lt {s:Nat} (h:s < 4294967296) (c:UInt8):nS s c < 4294967296:=nN_lt 8 (Nat.xor_lt_two_pow (n:=32) h (by have:=c.toNat_lt;omega))
theorem KX:∀ (l:List UInt8) {s:Nat},s < 4294967296→l.foldl Gu (Int.ofNat s)=Int.ofNat (l.foldl nS s)∧l.foldl nS s < 4294967296
  | [],_,h=>⟨rfl,h⟩
  | c :: l, s, h => by
    show l.foldl Gu (Gu (Int.ofNat s) c)=_∧l.foldl nS (nS s c) < _
    rw [crcS_nat h];exact KX l (nS_lt h c)
theorem Qev {x:Nat} (h:x < 4294967296):nt (Int.ofNat x)=Int.ofNat (4294967295 ^^^ x):=by
  unfold nt
  have t1:toU .u32 (Int.ofNat x)=x:=Nat.mod_eq_of_lt (by show x < 4294967296;exact h)
  have t2:toU .u32 (Int.ofNat (Nat.sub (KO .u32) 1))=4294967295:=rfl
  rw [t1,t2,UO]
  · rfl
  · exact Nat.xor_lt_two_pow (n:=32) (by decide) h
theorem crc_nat (b:List UInt8):UD b=Int.ofNat (4294967295 ^^^ b.foldl nS 4294967295):=by
  unfold UD
  rw [Qev (x:=0) (by decide),show 4294967295 ^^^ 0=4294967295 from rfl,(KX b (by decide)).1,Qev (KX b (by decide)).2]
theorem Kr (x i:Nat) (hi:i < 4):Wg (Int.ofNat x) i=UInt8.ofNat (x / 2 ^ (8 * i)):=by
  unfold Wg
  have e:Y2 (8 * i) (IntKind.bits .u32)=8 * i:=GF (by show 8 * i≤32;omega)
  rw [e,WA,w8m]
  unfold by8
  show UInt8.ofNat (UInt8.ofNat (x / 2 ^ (8 * i))).toNat=_
  apply UInt8.toNat_inj.1;simp
theorem tail_val {x:Nat} (h:x < 4294967296):ZO [Wg (Int.ofNat x) 0,Wg (Int.ofNat x) 1,Wg (Int.ofNat x) 2,Wg (Int.ofNat x) 3]=x:=by
  rw [Kr x 0 (by decide),Kr x 1 (by decide),Kr x 2 (by decide),Kr x 3 (by decide)]
  have t:∀ y:Nat,(UInt8.ofNat y).toNat=y % 256:=fun y=>by simp
  show (UInt8.ofNat _).toNat+256 * ((UInt8.ofNat _).toNat+256 * ((UInt8.ofNat _).toNat+256 * ((UInt8.ofNat _).toNat+256 * 0)))=x
  rw [t,t,t,t]
  simp only [Nat.mul_zero,Nat.pow_zero,Nat.div_one,Nat.mul_one]
  rw [show (2:Nat) ^ 8=256 from rfl,show (2:Nat) ^ (8 * 2)=65536 from rfl,show (2:Nat) ^ (8 * 3)=16777216 from rfl]
  omega
theorem G5 (r:List UInt8):(Zw r).foldl nS 4294967295=nN 32 4294967295:=by
  unfold Zw
  rw [List.foldl_append,crc_nat]
  have hs:=(KX r (s:=4294967295) (by decide)).2
  generalize r.foldl nS 4294967295=s at hs ⊢
  rw [KW,tail_val (Nat.xor_lt_two_pow (n:=32) (by decide) hs),xlc,Nat.xor_self,Nat.xor_zero]
  rfl
theorem JZ {r y:List UInt8} {t a:Nat} (hl:y.length=(Zw r).length) (h32:t < 2 ^ 32) (h0:t≠0) (hv:ZO y=ZO (Zw r) ^^^ (t * 2 ^ a)) (r':List UInt8):y≠Zw r':=by
  intro e
  have h1:=G5 r'
  rw [← e,KW] at h1
  have h2:=G5 r
  rw [KW,← hl] at h2
  have h3:nN (8 * y.length) ((4294967295 ^^^ ZO y) ^^^ (4294967295 ^^^ ZO (Zw r)))=0:=by
    rw [Qcj,h1,h2,Nat.xor_self]
  have h4:(4294967295 ^^^ ZO y) ^^^ (4294967295 ^^^ ZO (Zw r))=t * 2 ^ a:=by
    rw [hv]
    generalize ZO (Zw r)=A
    generalize t * 2 ^ a=D
    rw [Nat.xor_assoc,xlc (A ^^^ D),← Nat.xor_assoc,Nat.xor_self,Nat.zero_xor,Nat.xor_comm,← Nat.xor_assoc,Nat.xor_self,Nat.zero_xor]
  rw [h4] at h3
  refine nN_burst h32 h0 ?_ h3
  rw [← h4]
  have v1:=Gy y
  have v2:=Gy (Zw r)
  rw [← hl] at v2
  have h5:(4294967295 ^^^ ZO y) ^^^ (4294967295 ^^^ ZO (Zw r))=ZO y ^^^ ZO (Zw r):=by
    generalize ZO (Zw r)=A
    generalize ZO y=B
    rw [Nat.xor_assoc,xlc B,← Nat.xor_assoc,Nat.xor_self,Nat.zero_xor]
  rw [h5]
  exact Nat.xor_lt_two_pow v1 v2
theorem Qa4 (y:List UInt8) (n:Nat) (hn:n≤y.length):ZO (y.take n)=ZO y % 2 ^ (8 * n)∧ZO (y.drop n)=ZO y / 2 ^ (8 * n):=by
  have e:=Gc (y.take n) (y.drop n)
  rw [List.take_append_drop,List.length_take,Nat.min_eq_left hn] at e
  have h:=Gy (y.take n)
  rw [List.length_take,Nat.min_eq_left hn] at h
  rw [e]
  refine ⟨?_,?_⟩
  · rw [Nat.add_mul_mod_self_left,Nat.mod_eq_of_lt h]
  · rw [Nat.add_mul_div_left _ _ (Nat.two_pow_pos _),Nat.div_eq_of_lt h,Nat.zero_add]
theorem div_xor (a b n:Nat):(a ^^^ b) / 2 ^ n=a / 2 ^ n ^^^ b / 2 ^ n:=by
  have:=Nat.shiftRight_xor_distrib (a:=a) (b:=b) (i:=n)
  simpa [Nat.shiftRight_eq_div_pow] using this
theorem split_ge (t:Nat) {a m:Nat} (h:m≤a):(t * 2 ^ a) % 2 ^ m=0∧(t * 2 ^ a) / 2 ^ m=t * 2 ^ (a - m):=by
  have e:t * 2 ^ a=t * 2 ^ (a - m) * 2 ^ m:=by rw [Nat.mul_assoc,← Nat.pow_add,Nat.sub_add_cancel h]
  rw [e]
  exact ⟨Nat.mul_mod_left _ _,Nat.mul_div_cancel _ (Nat.two_pow_pos _)⟩
theorem split_lt (t:Nat) {a m:Nat} (h:a≤m):(t * 2 ^ a) % 2 ^ m=(t % 2 ^ (m - a)) * 2 ^ a∧(t * 2 ^ a) / 2 ^ m=t / 2 ^ (m - a):=by
  have e:2 ^ m=2 ^ (m - a) * 2 ^ a:=by rw [← Nat.pow_add,Nat.sub_add_cancel h]
  rw [e]
  exact ⟨Nat.mul_mod_mul_right _ _ _,Nat.mul_div_mul_right _ _ (Nat.two_pow_pos _)⟩
theorem frame_burst {r y:List UInt8} {t a:Nat} (hl:y.length=(Qs r).length) (h32:t < 2 ^ 32) (h0:t≠0) (hv:ZO y=ZO (Qs r) ^^^ (t * 2 ^ a)) :
    (∀ q,y.take 8≠Zw q)∨(y.take 8=Zw (JK r.length)∧∀ q,y.drop 8≠Zw q):=by
  have fl:=Zd r
  have x1:(Qs r).take 8=Zw (JK r.length):=by unfold Qs;rw [List.take_append_of_le_length (by rw [Yc];exact Nat.le_refl _),List.take_of_length_le (by rw [Yc];exact Nat.le_refl _)]
  have x2:(Qs r).drop 8=Zw r:=by unfold Qs;rw [List.drop_append_of_le_length (by rw [Yc];exact Nat.le_refl _),List.drop_eq_nil_of_le (by rw [Yc];exact Nat.le_refl _),List.nil_append]
  obtain ⟨y1,y2⟩:=Qa4 y 8 (by omega)
  obtain ⟨f1,f2⟩:=Qa4 (Qs r) 8 (by omega)
  rw [x1] at f1
  rw [x2] at f2
  rw [hv,Nat.xor_mod_two_pow,← f1] at y1
  rw [hv,div_xor,← f2] at y2
  have l1:(y.take 8).length=(Zw (JK r.length)).length:=by rw [Yc,List.length_take];omega
  have l2:(y.drop 8).length=(Zw r).length:=by rw [V4,List.length_drop];omega
  generalize hm:8 * 8=m at y1 y2
  by_cases ha:a≤m
  · obtain ⟨e1, e2⟩ := split_lt t ha
    rw [e1] at y1
    rw [e2] at y2
    by_cases hz:t % 2 ^ (m - a)=0
    · right
      rw [hz,Nat.zero_mul,Nat.xor_zero] at y1
      refine ⟨GX l1 y1,JZ (a:=0) l2 (Nat.lt_of_le_of_lt (Nat.div_le_self _ _) h32) (fun e=>h0 ?_) (by rw [Nat.pow_zero,Nat.mul_one];exact y2)⟩
      have:=Nat.div_add_mod t (2 ^ (m - a))
      rw [e,hz,Nat.mul_zero] at this
      exact this.symm
    · exact .inl (JZ l1 (Nat.lt_of_le_of_lt (Nat.mod_le _ _) h32) hz y1)
  · obtain ⟨e1, e2⟩ := split_ge t (show m ≤ a by omega)
    right
    rw [e1,Nat.xor_zero] at y1
    rw [e2] at y2
    exact ⟨GX l1 y1,JZ l2 h32 h0 y2⟩
end Go.Proofs.YtfgdelkdmdmfgaaDoor
namespace Go.Proofs.YtfgdelkdmdmfgaaDoor
open Go Go.Am
set_option linter.all false
set_option maxRecDepth 100000
section
variable {KB:AV→Bool→H→Prop} {KR:AV→Int→Int→H→Prop}
theorem t68f {x:List UInt8} {a:AV} {h:H} (q:SlB h a x) (hx:∀ r,x≠Zw r) (h4:4≤x.length) (hb:h.base≤h.next) (hl:x.length≤100000000000000) (hk:∀ h',Low h.next h h'→KB .nils false h'):G9 J0 (Xk J0 (Xj J0 (J1 J0))) a h KB:=by
  unfold G9
  rw [q.len,Qo,Kt _ _ (by omega),Yg _ (by omega)]
  have z1:ltI (Int.ofNat (x.length - 4)) (Int.ofNat 0)=false:=Za (Nat.zero_le _)
  have TS:=q.str
  simp only [↓Qg,z1,↓Qq,↓Qdn,↓QO,↓Qr,↓QS,↓QF,↓Qm,↓Qa,↓TS]
  refine q.head (by omega) fun v13 s13=>?_
  refine t41 s13 hb (by rw [List.length_take];omega) fun v25 h24 r25 l24=>?_
  have q24:=q.low l24 (Nat.le_refl _)
  refine Qp (Zy (Df q24) (Kw _)) ?_
  have e:(Zw (x.take (x.length - 4)) == x)=false:=by
    cases hb:(Zw (x.take (x.length - 4)) == x) with
    | false=>rfl
    | true=>exact absurd (eq_of_beq hb).symm (hx _)
  rw [r25.slb.str,Wk,Wk,Str.beq_of,e,Bool.not_false,QO]
  exact hk _ l24
def Bad (r y:List UInt8):Prop:=(∀ q,y.take 8≠Zw q)∨(y.take 8=Zw (JK r.length)∧∀ q,y.drop 8≠Zw q)
theorem t52c {r y rest:List UInt8} {a:AV} {h:H} (q:SlB h a (y++rest)) (hy:y.length=(Qs r).length) (hl:r.length≤1048576) (hb:h.base≤h.next) (hr:(y++rest).length≤100000000000) (hc:Bad r y) (hk:∀ h',Low h.next h h'→KR .nils (Int.ofNat 0) (Int.ofNat 6) h'):N4 J0 (G9 J0 (Xk J0 (Xj J0 (J1 J0)))) a h KR:=by
  have fl:=Zd r
  rw [fl] at hy
  rw [List.length_append,hy] at hr
  unfold N4 Dq No
  dsimp only
  rw [q.len,List.length_append,hy,Qg,Za (by omega),Qr]
  unfold Dp
  dsimp only
  refine q.head (by rw [List.length_append,hy];omega) fun v3 s3=>?_
  have e8:(y++rest).take 8=y.take 8:=List.take_append_of_le_length (by omega)
  rw [e8] at s3
  rcases hc with hc | ⟨he,hc⟩
  · refine t68f s3 hc (by rw [List.length_take]; omega) hb (by rw [List.length_take]; omega) fun h4 l4 => ?_
    unfold Gi
    dsimp only
    rw [Qg,Bool.not_false,QO]
    exact hk _ l4
  rw [he] at s3
  refine t68 s3 hb (by show 4≤_;omega) fun v5 h4 r5 l4=>?_
  have n4:=l4.next
  have b4:=l4.base
  unfold Gi
  dsimp only
  rw [Qg,Bool.not_true,Qr]
  unfold Nn
  dsimp only
  have s5:=r5.slb
  obtain ⟨q0,a0,f0⟩:=s5.at (i:=0) (by show 0 < 4;omega)
  have d0:∀ (h':H) (k:Int→Prop),(∀ id,id < h4.next→h'.get id=h4.get id)→ldI .u8 q0 h' k=k (bI (UInt8.ofNat r.length)):=f0
  obtain ⟨q1,a1,f1⟩:=s5.at (i:=1) (by show 1 < 4;omega)
  have d1:∀ (h':H) (k:Int→Prop),(∀ id,id < h4.next→h'.get id=h4.get id)→ldI .u8 q1 h' k=k (bI (UInt8.ofNat (r.length / 2 ^ 8))):=f1
  obtain ⟨q2,a2,f2⟩:=s5.at (i:=2) (by show 2 < 4;omega)
  have d2:∀ (h':H) (k:Int→Prop),(∀ id,id < h4.next→h'.get id=h4.get id)→ldI .u8 q2 h' k=k (bI (UInt8.ofNat (r.length / 2 ^ 16))):=f2
  obtain ⟨q3,a3,f3⟩:=s5.at (i:=3) (by show 3 < 4;omega)
  have d3:∀ (h':H) (k:Int→Prop),(∀ id,id < h4.next→h'.get id=h4.get id)→ldI .u8 q3 h' k=k (bI (UInt8.ofNat (r.length / 2 ^ 24))):=f3
  rw [a0,d0 h4 _ (fun _ _=>rfl),Qo,a1,d1 h4 _ (fun _ _=>rfl),Qo,Qo,Qo,a2,d2 h4 _ (fun _ _=>rfl),Qo,Qo,Qo,a3,d3 h4 _ (fun _ _=>rfl),Qo,Qo,Qo]
  have m0:Qd .u32 (bI (UInt8.ofNat r.length))=Int.ofNat (r.length % 256):=by
    show Qd .u32 (Int.ofNat (UInt8.ofNat r.length).toNat)=_
    rw [UO _ (by have:=(UInt8.ofNat r.length).toNat_lt;omega)];simp
  have m1:Qd .u32 (bI (UInt8.ofNat (r.length / 2 ^ 8)))=Int.ofNat (r.length / 2 ^ 8 % 256):=by
    show Qd .u32 (Int.ofNat (UInt8.ofNat (r.length / 2 ^ 8)).toNat)=_
    rw [UO _ (by have:=(UInt8.ofNat (r.length / 2 ^ 8)).toNat_lt;omega)];simp
  have m2:Qd .u32 (bI (UInt8.ofNat (r.length / 2 ^ 16)))=Int.ofNat (r.length / 2 ^ 16 % 256):=by
    show Qd .u32 (Int.ofNat (UInt8.ofNat (r.length / 2 ^ 16)).toNat)=_
    rw [UO _ (by have:=(UInt8.ofNat (r.length / 2 ^ 16)).toNat_lt;omega)];simp
  have m3:Qd .u32 (bI (UInt8.ofNat (r.length / 2 ^ 24)))=Int.ofNat (r.length / 2 ^ 24 % 256):=by
    show Qd .u32 (Int.ofNat (UInt8.ofNat (r.length / 2 ^ 24)).toNat)=_
    rw [UO _ (by have:=(UInt8.ofNat (r.length / 2 ^ 24)).toNat_lt;omega)];simp
  rw [m0,m1,m2,m3,Us (by omega) (by omega) (by omega),Us (by omega) (by omega) (by omega),Us (by omega) (by omega) (by omega)]
  have ev:r.length / 2 ^ 24 % 256 * 2 ^ 24+(r.length / 2 ^ 16 % 256 * 2 ^ 16+(r.length / 2 ^ 8 % 256 * 2 ^ 8+r.length % 256))=r.length:=by omega
  rw [ev]
  unfold Qbp
  have q4:=q.low l4 (Nat.le_refl _)
  rw [Qg,Za hl,Qr,Qo,Yg _ (by omega),Qo,ZE,Yg _ (by omega),Qo,ZE,Yg _ (by omega),q4.len,List.length_append,hy,Qg,Za (by omega),Qr]
  refine q4.cut (YT 0 8 .i64) (YT _ (8+r.length+4) .i64) (by omega) (by rw [List.length_append,hy];omega) fun v32 s10=>?_
  have e9:((y++rest).take (8+r.length+4)).drop 8=y.drop 8:=by
    rw [List.take_left' (by rw [hy];omega)]
  rw [e9] at s10
  refine t68f s10 hc (by rw [List.length_drop,hy];omega) (by omega) (by rw [List.length_drop,hy];omega) fun h33 l33=>?_
  rw [Qg,Bool.not_false,QO]
  exact hk _ (l4.trans (l33.down n4))
theorem t33c {rs : List (List UInt8)} {r0 y rest : List UInt8} {a : AV} {h : H} (q : SlB h a (rs.flatMap Qs ++ (y ++ rest))) (hy : y.length = (Qs r0).length) (hr0 : r0.length ≤ 1048576) (hc : Bad r0 y) (hrs : ∀ r ∈ rs, r.length ≤ 1048576) (hb : h.base ≤ h.next) (hl : (rs.flatMap Qs ++ (y ++ rest)).length ≤ 100000000000) (hn : rs.length ≤ 1000000000)
    (hk:∀ v n h',Low h.next h h'→KR v n (Int.ofNat 6) h'):Qcc J0 pRd a h KR:=by
  obtain ⟨t,et⟩:∃ t,t=y++rest:=⟨_,rfl⟩
  rw [← et] at q hl
  have tp:0 < t.length:=by rw [et,List.length_append,hy,Zd];omega
  unfold Qcc
  rw [Vp]
  refine YA rs.length (fun i x h'=>∃ w,x=(a,w,.int .i64 (Int.ofNat ((rs.take i).flatMap Qs).length),())∧Qd0 h' h.next w (rs.take i)∧Low h.next h h') (by omega) ?_ ?_ ⟨.nils,rfl,⟨[],.nil _ _ _ _ _,by simp,fun i h1=>absurd h1 (Nat.not_lt_zero _)⟩,Low.refl _ _⟩
  · rintro i x h1 self hi ⟨w, rfl, ⟨ls, gr, hll, hsl⟩, lo⟩ hs
    have n1:=lo.next
    have b1:=lo.base
    have q1:=q.low lo (Nat.le_refl _)
    have fl:=NJ hi
    have fd:=Jd rs t i
    have hlen:((rs.take i).flatMap Qs).length+((rs.drop i).flatMap Qs++t).length=(rs.flatMap Qs++t).length:=by
      rw [← fd,List.length_drop]
      have:((rs.take i).flatMap Qs).length≤(rs.flatMap Qs++t).length:=by
        have e:rs.flatMap Qs++t=(rs.take i).flatMap Qs++((rs.drop i).flatMap Qs++t):=by
          rw [← List.append_assoc,← List.flatMap_append,List.take_append_drop]
        rw [e,List.length_append];omega
      omega
    have ed:rs.drop i=rs[i]::rs.drop (i+1):=List.drop_eq_getElem_cons hi
    have ef:(rs.drop i).flatMap Qs++t=Qs rs[i]++((rs.drop (i+1)).flatMap Qs++t):=by rw [ed,List.flatMap_cons,List.append_assoc]
    have hpos:0 < ((rs.drop i).flatMap Qs++t).length:=by rw [ef,List.length_append,Zd];omega
    dsimp only
    rw [q1.len,Qa,Qg,ZA (by omega),QO]
    refine q1.tail (by omega) fun v14 s14=>?_
    rw [fd,ef] at s14
    rw [Qat]
    have hri:rs[i].length≤1048576:=hrs _ (List.getElem_mem hi)
    refine t52 s14 (by omega) hri (by rw [← ef];omega) fun v16 h15 r15 l15=>?_
    have n15:=l15.next
    have b15:=l15.base
    have one:ZB v16=true:=r15.slb.one
    rw [WS,tri0,WS,tri1,Qa,WS,tri2,Qa,Qg,show eqI (Int.ofNat 0) (Int.ofNat 0)=true from rfl,QO,one,Uf,QW]
    have l27:=Low.push h15.next h15 (.cells false 39 [v16]) (Nat.le_refl _)
    have g27:=WU h15 (.cells false 39 [v16])
    have n27:(QI h15 (.cells false 39 [v16])).next=h15.next+1:=rfl
    generalize QI h15 (.cells false 39 [v16])=h27 at l27 g27 n27 ⊢
    have b27:=l27.base
    have lo27:Low h1.next h1 h27:=l15.trans (l27.down n15)
    have hti:(rs.take i).length=i:=by rw [List.length_take];omega
    refine NW (a:=(⟨v16,one⟩:Sl1)) (gr.keep lo27 (Nat.le_refl _)) Qag Qa8 g27 (by omega) (by omega) (by unfold Qe;omega) fun v28 h29 gr29 l29 bk29=>?_
    have n29:=l29.next
    have b29:=l29.base
    have lo29:Low h.next h h29:=(lo.trans (lo27.down n1)).trans l29
    have R29:Qd0 h29 h.next v28 (rs.take (i+1)):=by
      refine ⟨ls++[⟨v16,one⟩],gr29,by rw [List.length_append,hll,hti,List.length_take];simp;omega,fun j j1 j2=>?_⟩
      by_cases hj:j < ls.length
      · rw [List.getElem_append_left hj]
        have:=((hsl j hj (by omega)).low lo27 (Nat.le_refl _)).bk bk29
        have e:(rs.take i)[j]'(by omega)=(rs.take (i+1))[j]:=by simp
        rw [← e];exact this
      · have hj2 : j = i := by
          rw [List.length_take] at j2;omega
        subst hj2
        rw [List.getElem_append_right (by omega)]
        have h0:j - ls.length=0:=by omega
        have:SlB h29 v16 rs[j]:=(r15.slb.low l27 (Nat.le_refl _)).bk bk29
        simp only [h0,List.getElem_cons_zero,List.getElem_take]
        exact this
    rw [Qa,Qo,ZE,← fl,Yg _ (by rw [fl];rw [ef,List.length_append,Zd] at hlen;omega)]
    have q29:=q.low lo29 (Nat.le_refl _)
    rw [q29.len,Qg,W5]
    rw [decide_eq_false (by
      have e:=congrArg List.length (Jd rs t (i+1))
      rw [List.length_append]
      simp only [List.length_drop,List.length_append] at e
      omega),Qr]
    exact hs _ _ ⟨v28,rfl,R29,lo29⟩
  · rintro x h1 self ⟨w, rfl, R, lo⟩
    rw [List.take_length] at R
    have q1:=q.low lo (Nat.le_refl _)
    have n1:=lo.next
    have b1:=lo.base
    dsimp only
    rw [q1.len,Qa,Qg,ZI,List.take_length,List.length_append,decide_eq_true (by omega),QO]
    refine q1.tail (by rw [List.length_append];omega) fun v14 s14=>?_
    rw [List.drop_left,et] at s14
    rw [Qat]
    refine t52c s14 hy hr0 (by rw [List.length_append] at hl;omega) (by rw [← et];rw [List.length_append] at hl;omega) hc fun h15 l15=>?_
    rw [WS,tri0,WS,tri1,Qa,WS,tri2,Qa,Qg,show eqI (Int.ofNat 6) (Int.ofNat 0)=false from rfl,Qr]
    exact hk _ _ _ (lo.trans (l15.down n1))
end
end Go.Proofs.YtfgdelkdmdmfgaaDoor
namespace Go.Proofs.YtfgdelkdmdmfgaaDoor
open Go Go.Am
set_option linter.all false
set_option maxRecDepth 100000
section
variable {KA:AV→Int→H→Prop} {K3:AV→AV→Int→H→Prop}
theorem t19c {h:H} {g:FsG} {fs:Fs} {x:Int} {rs:List (List UInt8)} {r0 y rest:List UInt8} {v:AV} (f:FsAt h g fs) (fit:fs.Fits Qe) (o:LgOn [(x,rs.flatMap Qs++(y++rest))] fs) (hy:y.length=(Qs r0).length) (hr0:r0.length≤1048576) (hc:Bad r0 y) (hrs:∀ r∈rs,r.length≤1048576)
    (hl:(rs.flatMap Qs++(y++rest)).length≤100000000000) (hn:rs.length≤1000000000) (hk:∀ h',KA .nils (Int.ofNat 6) h'):Nc J0 s10 T26 T33 T34 (.ptr g.id 0) (Int.ofNat 1) v h KA:=by
  unfold Nc
  refine t26 (n:=1) (by omega) (by omega) ?_
  refine p20 f fit fun v5 h4 f4 o4 q5=>?_
  have erd:=o.read_in (i:=0) (by show 0 < 1;omega)
  rw [show QT (0+1)=QT 1 from rfl] at erd
  rw [erd] at q5 ⊢
  dsimp only at q5 ⊢
  have n4:=o4.next
  have b4:=o4.base
  have wf:=f.wf
  rw [show (Bool.not (eqI (0:Int) (Int.ofNat 0)))=false from rfl,Qg,Qr]
  refine t33c (rs:=rs) (r0:=r0) (y:=y) (rest:=rest) q5 hy hr0 hc hrs (by omega) hl hn fun v9 x10 h8 l8=>?_
  rw [show eqI (Int.ofNat 6) (Int.ofNat 6)=true from rfl,Qg,QO]
  exact hk _
theorem t6c {h:H} {g:FsG} {fs:Fs} {x:Int} {rs:List (List UInt8)} {r0 y rest:List UInt8} (f:FsAt h g fs) (fit:fs.Fits Qe) (o:LgOn [(x,rs.flatMap Qs++(y++rest))] fs) (hy:y.length=(Qs r0).length) (hr0:r0.length≤1048576) (hc:Bad r0 y) (hrs:∀ r∈rs,r.length≤1048576)
    (hl:(rs.flatMap Qs++(y++rest)).length≤100000000000) (hn:rs.length≤1000000000) (hk:∀ h',K3 .nilp .nils (Int.ofNat 6) h'):T6 (.ptr g.id 0) (Int.ofNat 1) (Int.ofNat 0) h K3:=by
  show s6G J0 T17 (Qak J0 s10 T26) (Nc J0 s10 T26 T33 T34) T20 (.ptr g.id 0) (Int.ofNat 1) (Int.ofNat 0) h K3
  unfold s6G
  refine t17 f fit o.ha fun ha fa oa=>?_
  rw [o.on]
  have z0:Bool.not (eqI (Int.ofNat 0) (Int.ofNat 0))=false:=rfl
  have z1:ltI (Int.ofNat 1) (Int.ofNat 1)=false:=rfl
  have z2:ltI (Int.ofNat 999999) (Int.ofNat 1)=false:=rfl
  have z3:ltI (Int.ofNat 0) (Int.ofNat 0)=false:=rfl
  have z4:ltI (Int.ofNat 1073741824) (Int.ofNat 0)=false:=rfl
  rw [if_neg (by simp),Qg,z0,Qr,Qg,z1];(try dsimp only)
  rw [Qq];(try dsimp only);rw [Qr];(try dsimp only);rw [Qq];(try dsimp only);rw [Qr];(try dsimp only);rw [Qa,Qg,z2];(try dsimp only);rw [QF,Qm];(try dsimp only)
  rw [Qq];(try dsimp only);rw [Qr];(try dsimp only);rw [Qq];(try dsimp only);rw [Qr];(try dsimp only);rw [Qa,Qg,z3];(try dsimp only);rw [QF,Qm];(try dsimp only)
  rw [Qq];(try dsimp only);rw [Qr];(try dsimp only);rw [Qq];(try dsimp only);rw [Qr];(try dsimp only);rw [Qa,Qg,z4];(try dsimp only);rw [QF,Qm];(try dsimp only)
  rw [Qr];(try dsimp only)
  refine YA 0 (fun i x' h'=>x'=(.ptr g.id 0,.int .i64 (Int.ofNat 0),.nils,.int .i64 (Int.ofNat 1),())∧FsAt h' g fs) (by omega) (fun _ _ _ _ hi=>absurd hi (Nat.not_lt_zero _)) ?_ ⟨rfl,fa⟩
  rintro x' h1 self ⟨rfl,f1⟩
  dsimp only
  rw [Qa]
  refine t18 (n:=1) f1 fit o (by omega) (by omega) fun h2 f2 o2=>?_
  rw [show decide (1≤List.length [(x,rs.flatMap Qs++(y++rest))])=true from rfl,QO,Qa]
  refine t19c f2 fit o hy hr0 hc hrs hl hn fun h3=>?_
  rw [show Bool.not (eqI (Int.ofNat 6) (Int.ofNat 0))=true from rfl,Qg,QO]
  exact hk _
end
end Go.Proofs.YtfgdelkdmdmfgaaDoor
namespace Go.Am
open Go
set_option linter.all false
theorem stV_by {h:H} {i o t f:Nat} {g:Bool} {l:List UInt8} {c:UInt8} (e:h.get i=.bytes t f g (Str.of l)) (ho:o < l.length) (hf:f≤o) (hi:i < h.next) (hb:h.base≤i) (k:H→Prop) :
    stV (.ptr i o) (.int .u8 (Int.ofNat c.toNat)) h k=k (Zt h i (.bytes t f g (Str.of (l.set o c)))):=by
  show ZX (h.get i) _ _=_
  rw [e]
  show YU (.int .u8 (Int.ofNat c.toNat)) (fun d=>ck (Nat.blt o (Str.of l).len) (ck (Nat.ble f o) (ck (Nat.blt d 256) (fS ((Str.of l).set o d) fun s'=>asI .u8 (.int .u8 (Int.ofNat c.toNat)) fun _=>Yy i (.bytes t f g s') h k))))=_
  rw [show ∀ (c:UInt8) (k:Nat→Prop),YU (.int .u8 (Int.ofNat c.toNat)) k=k c.toNat from fun _ _=>rfl,Ws,(QH _ _).2 ho,(Qk _ _).2 hf,(QH _ _).2 c.toNat_lt,Uf,Uf,Uf,Vt,Qa,Str.set_of _ _ _ ho,YX _ hi hb]
theorem Row.setR {g:Bool} {e n:Nat} {h:H} {v:AV} {l:List UInt8} (r:Row g e n h v l) (hb:h.base≤n) {i:Nat} (hi:i < l.length) {c:UInt8} {kk:IntKind} {k:H→Prop} (hk:∀ h',Row g e n h' v (l.set i c)→Low n h h'→h'.next=h.next→k h') :
    ixK 1 v (.int kk (Int.ofNat i)) fun p=>stV p (.int .u8 (Int.ofNat c.toNat)) h k:=by
  rcases r with ⟨rfl,rfl⟩ | ⟨id,ex,sg,rfl,h1,h2,h3,h4⟩
  · simp at hi
  · rw [ixKn (es := 1) hi, Nat.mul_one, stV_by h3 hi (Nat.zero_le _) h2 (by omega)]
    refine hk _ (.inr ⟨id,ex,sg,by rw [List.length_set],h1,h2,by rw [QU _ _ _ h2,if_pos rfl],h4⟩) ⟨rfl,Nat.le_refl _,fun j hj=>by rw [QU _ _ _ h2,if_neg (by omega)]⟩ rfl
def Fs.altered (fs:Fs) (x:Int) (b:List UInt8):Fs:={ fs with sure:=⟨XN fs.sure.files x b,fs.sure.names⟩ }
end Go.Am
namespace Go.Proofs.YtfgdelkdmdmfgaaDoor
open Go Go.Am
set_option linter.all false
set_option maxRecDepth 100000
section
variable {KI:Int→H→Prop}
theorem t11 {a:Int} {n:Nat} {h:H} (hn:0 < n) (hm:n < 4611686018427387904) (hk:∀ r:Nat,r < n→KI (Int.ofNat r) h):Qeq J0 a (Int.ofNat n) h KI:=by
  unfold Qeq
  refine Qp (by rw [show eqI (Int.ofNat n) 0=false from Q4.2 (by show ((n:Nat):Int)≠0;omega)];rfl) ?_
  rw [Qo,Vp,Qg]
  have hn0:(0:Int) < (n:Int):=by omega
  have l1:Int.tmod a (Int.ofNat n) < (n:Int):=Int.tmod_lt_of_pos a hn0
  have l2:-(n:Int) < Int.tmod a (Int.ofNat n):=Int.lt_tmod_of_pos a hn0
  generalize Int.tmod a (Int.ofNat n)=m at l1 l2 ⊢
  by_cases h0:m < 0
  · rw [show ltI m (Int.ofNat 0) = true from WK.2 h0, QO, Qo]
    have e:Qd .i64 (Int.add m (Int.ofNat n))=Int.ofNat (m+n).toNat:=by
      have e1:Int.add m (Int.ofNat n)=Int.ofNat (m+n).toNat:=by show m+(n:Int)=((m+n).toNat:Int);omega
      rw [e1,Yg _ (by omega)]
    dsimp only
    show asI .i64 (AV.int .i64 (Qd .i64 (Int.add m (Int.ofNat n)))) (fun x7=>KI x7 h)
    rw [Qa,e]
    exact hk _ (by omega)
  · rw [show ltI m (Int.ofNat 0) = false from Ys.2 (by show (0 : Int) ≤ m; omega), Qr]
    show asI .i64 (AV.int .i64 m) (fun x7=>KI x7 h)
    rw [Qa]
    have e:m=Int.ofNat m.toNat:=by show m=((m.toNat:Nat):Int);omega
    rw [e]
    exact hk _ (by omega)
theorem p13a {h:H} {g:FsG} {fs:Fs} {s d:List UInt8} {x:Int} {i:Nat} {c:UInt8} (f:FsAt h g fs) (hn:named s=true) (hx:Zh fs.sure.names s=some x) (hd:QG fs.sure.files x=d) (hi:i < d.length) (hl:d.length≤Qe)
    (hk:∀ h',FsAt h' g (fs.altered x (d.set i (d[i] ^^^ c)))→Only (· = g.mf) h h'→KI (Int.ofNat 0) h'):Qeo J0 s30 s33 (.ptr g.id 0) (Str.of s) (Int.ofNat i) (Int.ofNat c.toNat) h KI:=by
  have hm:Qe=140737488355328:=rfl
  unfold Qeo nilB
  obtain ⟨w,e1,e2⟩:=f.obj
  have L9:∀ k,ldB (.ptr g.id (Nat.add 0 9)) h k=k true:=fun k=>Wv e1 rfl k
  rw [show Nat.beq (ZQ (.ptr g.id 0)) 0=false from rfl,Qr,show Nat.beq (ZQ (.ptr g.id 0)) (Nat.succ 0)=true from rfl,Uf]
  (try dsimp only)
  ((rw [Qq];(try dsimp only);rw [Qr];(try dsimp only)))
  ((rw [Qq];(try dsimp only);rw [Qr];(try dsimp only)));rw [QR];(try dsimp only)
  ((rw [Qq];(try dsimp only);rw [Qr];(try dsimp only)));rw [Qw];(try dsimp only)
  ((rw [Qq];(try dsimp only);rw [Qr];(try dsimp only)));rw [L9];(try dsimp only)
  ((rw [Qq];(try dsimp only);rw [Qr];(try dsimp only)));rw [Qm,Qg,Bool.not_true];(try dsimp only)
  rw [QF,Qm,Qr]
  refine p46 ?_
  rw [hn,Qg,Bool.not_true,Qr,QR,Qw,Qw]
  have M1:∀ k,ldV (.ptr g.id (Nat.add (Nat.add 0 0) 1)) h k=k (.map g.mn):=fun k=>Q1 e1 rfl k
  have M0:∀ k,ldV (.ptr g.id (Nat.add (Nat.add 0 0) 0)) h k=k (.map g.mf):=fun k=>Q1 e1 rfl k
  have nf:UL fs.sure.names s=x:=by unfold UL;rw [hx];rfl
  rw [M1,Qcm vt f.tree,Qy,Yi]
  show op' (some (AV.int .i64 (UL fs.sure.names s))) _
  rw [Qy,Qa,Yi]
  show op' (some (AV.bool (Zh fs.sure.names s).isSome)) _
  rw [Qy,Qm,hx,Qg,show Bool.not (Option.isSome (some x))=false from rfl,Qr,nf]
  have z1:ltI (Int.ofNat i) (Int.ofNat 0)=false:=Za (Nat.zero_le _)
  obtain ⟨v,v1,v2⟩:=Qdi vt f.tree x
  rw [hd] at v2
  have VL:=v2.len
  have z2:ltI (Int.ofNat i) (Int.ofNat d.length)=true:=ZA hi
  have LK:∀ k,op' (Q5 ty 3 39 false (.map g.mf) (.int .i64 x) h) k=k v:=fun k=>by rw [v1,Qy]
  rw [Qg,z1];(try dsimp only)
  ((rw [Qq];(try dsimp only);rw [Qr];(try dsimp only)))
  ((rw [Qq];(try dsimp only);rw [Qr];(try dsimp only)))
  ((rw [Qq];(try dsimp only);rw [Qr];(try dsimp only)));rw [QR];(try dsimp only)
  ((rw [Qq];(try dsimp only);rw [Qr];(try dsimp only)));rw [Qw];(try dsimp only)
  ((rw [Qq];(try dsimp only);rw [Qr];(try dsimp only)));rw [Qw];(try dsimp only)
  ((rw [Qq];(try dsimp only);rw [Qr];(try dsimp only)));rw [M0];(try dsimp only)
  ((rw [Qq];(try dsimp only);rw [Qr];(try dsimp only)))
  ((rw [Qq];(try dsimp only);rw [Qr];(try dsimp only)));rw [LK];(try dsimp only)
  ((rw [Qq];(try dsimp only);rw [Qr];(try dsimp only)));rw [VL];(try dsimp only)
  ((rw [Qq];(try dsimp only);rw [Qr];(try dsimp only)));rw [Qa,Qa,z2,Qg,Bool.not_true];(try dsimp only)
  rw [QF,Qm,Qr,QR,Qw,Qw,M0,LK]
  refine p42 v2 f.wf (by omega) fun v' h80 r80 o80=>?_
  have b80:=o80.base
  have n80:=o80.next
  obtain ⟨p,p1,p2⟩:=(SlB.ofRow r80).at hi
  rw [p1,p2 h80 _ (fun _ _=>rfl),Qo]
  have ex:VF .u8 (bI d[i]) (Int.ofNat c.toNat)=Int.ofNat (d[i] ^^^ c).toNat:=by
    have h1:=(d[i]).toNat_lt
    have h2:=c.toNat_lt
    show Qd .u8 (Int.ofNat (Nat.xor (toU .u8 (Int.ofNat (d[i]).toNat)) (toU .u8 (Int.ofNat c.toNat))))=_
    have t1:toU .u8 (Int.ofNat (d[i]).toNat)=(d[i]).toNat:=Nat.mod_eq_of_lt (by show _ < 256;omega)
    have t2:toU .u8 (Int.ofNat c.toNat)=c.toNat:=Nat.mod_eq_of_lt (by show _ < 256;omega)
    rw [t1,t2,w8u,UInt8.toNat_xor]
    · rfl
    · exact Nat.xor_lt_two_pow (n:=8) h1 h2
  rw [ex]
  refine Row.setR r80 (by rw [b80];exact f.wf) hi (c:=d[i] ^^^ c) (kk:=.i64) fun h86 r86 l86 n86=>?_
  have O86:Only noL h h86:=⟨l86.base.trans b80,by omega,fun j hj _=>(l86.get j hj).trans (o80.get j hj id),fun j t fz sg str e=>(l86.get j (H.lt_of_live (by rw [e];rfl))).trans (o80.byt j t fz sg str e)⟩
  have f86:=f.only O86 fun _ _=>id
  obtain ⟨w6,e6,e7⟩:=f86.obj
  have M6:∀ k,ldV (.ptr g.id (Nat.add (Nat.add 0 0) 0)) h86 k=k (.map g.mf):=fun k=>Q1 e6 rfl k
  rw [QR,Qw,Qw,M6]
  obtain ⟨es,e8,a8⟩:=putF vt f86.tree x (SlB.ofRow r86)
  rw [e8,Qy]
  obtain ⟨es0,e3,_⟩:=f86.tree.files
  refine U3 e3 rfl (by intros;intro c;cases c) f86.tree.bf fun h91 o91 n91 g91=>?_
  have ne1:g.id≠g.mf:=fun e=>by rw [e,e3] at e6;cases e6
  have tr:TreeAt h91 g.mf g.mn ⟨XN fs.sure.files x (d.set i (d[i] ^^^ c)),fs.sure.names⟩:=f86.tree.putF o91 g91 a8
  refine hk h91 ⟨by rw [o91.base];exact f86.bs,⟨w6,(o91.at e6 rfl ne1).trans rfl,?_⟩,tr⟩ ((O86.imp fun _ _ c=>c.elim).trans o91 fun _ _ c=>c)
  exact e7.only o91 fun j hj e=>by
    rcases e7 with ⟨_,_,h1⟩ | ⟨hw,id,mv,cs',h1,h2,h3,h4,h5⟩
    · rw [h1] at hj;cases hj
    · rw [h1] at hj; injection hj with hj; subst hj
      rw [e,e3] at h4;cases h4
end
end Go.Proofs.YtfgdelkdmdmfgaaDoor
namespace Go.Proofs.YtfgdelkdmdmfgaaDoor
open Go Go.Am
set_option linter.all false
set_option maxRecDepth 100000
section
variable {KI:Int→H→Prop} {KA:AV→Int→H→Prop}
theorem tL32 {x:Nat} {h:H} (hx:x < 4294967296) (h0:x≠0) (hk:∀ L:Nat,1≤L→L≤32→x < 2 ^ L→KI (Int.ofNat L) h):QdP J0 (Int.ofNat x) h KI:=by
  unfold QdP
  have e1:Y2 16 (IntKind.bits .u32)=16:=rfl
  have e2:Y2 8 (IntKind.bits .u32)=8:=rfl
  have fin:∀ (y a:Nat) (A:Int),A=Int.ofNat a→y < 256→1≤y→a≤24→x / 2 ^ a=y →
      WN (AV.str ⟨256,496986003408712215933005303621146343841837811690876167382323004466384420695090407243345123874780946046625255262057845613767806773758184921447759720770971536008171983842311960805720366577116933250839345203839274948261284255908394484732272583221484877694546905335834403051067785895034095251181560891789708940188598129052595634438001880866652824740680664595948164050600812232986714152902334120417949232733424961741260388658846598210939813666227264727603044226856020347194099943897342244906131705541414413428559898943151040826816076322978570758226444464494629814583418847495712557856038296917933182380796641777551368⟩) (AV.int .u8 (Qd .u8 (Int.ofNat y))) (fun x11=>KI (Qd .i64 (Int.add A (Qd .i64 x11))) h):=fun y a A hA hy hy1 ha hxy=>by
    obtain ⟨q1,q2,q3,q4⟩:=lenT_is y hy hy1
    rw [w8u _ hy,ixs_at (by show y < 256;exact hy),hA]
    show KI (Qd .i64 (Int.add (Int.ofNat a) (Qd .i64 (Int.ofNat (QdT y))))) h
    generalize QdT y=L at q1 q2 q3 q4 ⊢
    rw [Yg _ (by omega),ZE,Yg _ (by omega)]
    refine hk _ (by omega) (by omega) ?_
    have p2:2 ^ (a+L)=2 ^ L * 2 ^ a:=by rw [← Nat.pow_add];congr 1;omega
    have hp:0 < 2 ^ a:=Nat.pow_pos (by decide)
    rw [p2]
    rw [← hxy] at q4;exact (Nat.div_lt_iff_lt_mul hp).1 q4
  rw [Vp,Qg]
  by_cases h3:x < 65536
  · rw [ZA h3, Bool.not_true, Qr]
    dsimp only
    rw [Vp,Qa,Qg]
    by_cases h4:x < 256
    · rw [ZA h4, Bool.not_true, Qr]
      dsimp only
      rw [Qa,Qo]
      have:=fin x 0 (Int.ofNat 0) rfl h4 (by omega) (by omega) (by simp)
      simp only [Qo,Qa]
      exact this
    · rw [Za (by omega), Bool.not_false, QO, Qa, Qo, Qa, Qo, e2, WA, ZE, Yg _ (by omega)]
      dsimp only
      rw [Qa,Qo]
      have:=fin (x / 2 ^ 8) 8 (Int.ofNat (0+8)) rfl (by omega) (by omega) (by omega) rfl
      simp only [Qo,Qa]
      exact this
  · rw [Za (by omega), Bool.not_false, QO, Qo, e1, WA]
    dsimp only
    rw [Vp,Qa,Qg]
    by_cases h4:x / 2 ^ 16 < 256
    · rw [ZA h4, Bool.not_true, Qr]
      dsimp only
      rw [Qa,Qo]
      have:=fin (x / 2 ^ 16) 16 (Int.ofNat 16) rfl h4 (by omega) (by omega) rfl
      simp only [Qo,Qa]
      exact this
    · rw [Za (by omega), Bool.not_false, QO, Qa, Qo, Qa, Qo, e2, WA, ZE, Yg _ (by omega), Nat.div_div_eq_div_mul]
      dsimp only
      rw [Qa,Qo]
      have:=fin (x / (2 ^ 16 * 2 ^ 8)) 24 (Int.ofNat (16+8)) rfl (by omega) (by omega) (by omega) (by rw [← Nat.pow_add])
      simp only [Qo,Qa]
      exact this
theorem shl_bit:∀ n:Nat,n < 8→VQ .u8 (Int.ofNat 1) n=Int.ofNat (UInt8.ofNat (2 ^ n)).toNat∧(UInt8.ofNat (2 ^ n)).toNat=2 ^ n:=by decide +kernel
theorem DZ (kk:IntKind) (n:Nat) (k:Nat→Prop):YU (.int kk (Int.ofNat n)) k=k n:=rfl
theorem t12b {b : List UInt8} {a : AV} {h : H} {at' : Int} {t : Nat} (q : SlB h a b) (hb : h.base ≤ h.next) (h4 : 4 ≤ b.length) (hl : b.length ≤ 100000000000000) (ht : t < 4294967296) (h0 : t ≠ 0)
    (hk2:KA .nils (Int.ofNat 2) h) (hk:∀ v y p h',SlB h' v y→y.length=b.length→ZO y=ZO b ^^^ (t * 2 ^ p)→Low h.next h h'→KA v (Int.ofNat 0) h'):Qep J0 (QdP J0) a at' (Int.ofNat t) h KA:=by
  unfold Qep
  refine tL32 ht h0 fun L l1 l2 l3=>?_
  rw [Qo,Kt _ _ (by omega),Yg _ (by omega),Qg]
  by_cases ha:at' < 0
  · rw [show ltI at' (Int.ofNat 0) = true from WK.2 ha]
    simp only [↓Qq,↓QO,↓QS,↓Qm]
    exact hk2
  rw [show ltI at' (Int.ofNat 0)=false from Ys.2 (by show (0:Int)≤at';omega)]
  obtain ⟨p,rfl⟩:∃ p:Nat,at'=Int.ofNat p:=⟨at'.toNat,by show at'=((at'.toNat:Nat):Int);omega⟩
  have QL:=q.len
  have z1:ltI (Int.ofNat (L - 1)) (Int.ofNat 0)=false:=Za (Nat.zero_le _)
  have e1:Qd .i64 (Int.mul (Int.ofNat 8) (Int.ofNat b.length))=Int.ofNat (8 * b.length):=by rw [Qaw,Yg _ (by omega)]
  have e2:Qd .i64 (Int.sub (Int.ofNat (8 * b.length)) (Int.ofNat 1))=Int.ofNat (8 * b.length - 1):=by rw [Kt _ _ (by omega),Yg _ (by omega)]
  have e3:Qd .i64 (Int.sub (Int.ofNat (8 * b.length - 1)) (Int.ofNat (L - 1)))=Int.ofNat (8 * b.length - 1 - (L - 1)):=by rw [Kt _ _ (by omega),Yg _ (by omega)]
  rw [Qq];(try dsimp only);rw [Qr];(try dsimp only)
  rw [Qq];(try dsimp only);rw [Qr,Qa,z1,Qg,Bool.not_false];(try dsimp only)
  rw [Qq];(try dsimp only);rw [Qr];(try dsimp only)
  rw [Qq];(try dsimp only);rw [Zc];(try dsimp only);rw [QO];(try dsimp only)
  rw [Qq];(try dsimp only);rw [Zc];(try dsimp only);rw [QO];(try dsimp only)
  rw [Qq];(try dsimp only);rw [Zc];(try dsimp only);rw [QO,QL];(try dsimp only)
  rw [Qq];(try dsimp only);rw [Zc];(try dsimp only);rw [QO,Qa,Qo,e1];(try dsimp only)
  rw [Qq];(try dsimp only);rw [Zc];(try dsimp only);rw [QO,Qa,Qo,e2];(try dsimp only)
  rw [Qq];(try dsimp only);rw [Zc];(try dsimp only);rw [QO];(try dsimp only)
  rw [Qq];(try dsimp only);rw [Zc];(try dsimp only);rw [QO,Qa,Qa,Qo,e3];(try dsimp only)
  rw [Qq];(try dsimp only);rw [Zc];(try dsimp only);rw [QO,Qa,Qa,Qg];(try dsimp only)
  rw [Qq];(try dsimp only);rw [Qr,QS,Qm];(try dsimp only)
  rw [QF,Qm]
  by_cases hp:8 * b.length - 1 - (L - 1) < p
  · rw [ZA hp,QO];exact hk2
  rw [Za (by omega),Qr]
  refine YZ (Row.nil true 5 h.next h) hb (Nat.le_refl _) (q.src 5) (by unfold Qe;simp;omega) fun v56 h57 r57 l57=>?_
  rw [List.nil_append] at r57
  have b57:=l57.base
  refine YA L (fun i x h'=>∃ l,x=(.int .i64 (Int.ofNat p),.int .u32 (Int.ofNat t),.int .i64 (Int.ofNat (L - 1)),v56,.int .i64 (Int.ofNat i),())∧Row true 5 h.next h' v56 l∧l.length=b.length∧ZO l=ZO b ^^^ ((t % 2 ^ i) * 2 ^ p)∧Low h.next h h') (by omega) ?_ ?_ ⟨b,rfl,r57,rfl,by rw [Nat.pow_zero,Nat.mod_one,Nat.zero_mul,Nat.xor_zero],l57⟩
  · rintro i x h60 self hi ⟨l, rfl, r60, ll, lv, lo⟩ hs
    dsimp only
    have b60:=lo.base
    rw [Qa,Qa,Qg,Za (by omega),Bool.not_false,QO]
    refine jd_via (fun x d' h'=>d'=[]∧∃ l,x=(.int .i64 (Int.ofNat p),.int .u32 (Int.ofNat t),.int .i64 (Int.ofNat (L - 1)),v56,.int .i64 (Int.ofNat i),())∧Row true 5 h.next h' v56 l∧l.length=b.length∧ZO l=ZO b ^^^ ((t % 2 ^ (i+1)) * 2 ^ p)∧Low h.next h h') ?_ fun jj HH=>?_
    · rintro x d' h' ⟨rfl, l', rfl, r', ll', lv', lo'⟩
      dsimp only
      rw [Qa,Qo,Ud i (by omega)]
      exact hs _ _ ⟨l',rfl,r',ll',lv',lo'⟩
    rw [Qa,DZ,Qo,GF (by show i≤32;omega),WA,Qo]
    have eb:DM .u32 (Int.ofNat (t / 2 ^ i)) (Int.ofNat 1)=Int.ofNat (t / 2 ^ i % 2):=by
      show Qd .u32 (Int.ofNat (Nat.land (toU .u32 (Int.ofNat (t / 2 ^ i))) (toU .u32 (Int.ofNat 1))))=_
      have hd:t / 2 ^ i < 4294967296:=Nat.lt_of_le_of_lt (Nat.div_le_self _ _) ht
      have t1:toU .u32 (Int.ofNat (t / 2 ^ i))=t / 2 ^ i:=Nat.mod_eq_of_lt (by show _ < 4294967296;exact hd)
      have t2:toU .u32 (Int.ofNat 1)=1:=rfl
      rw [t1,t2]
      have:Nat.land (t / 2 ^ i) 1=t / 2 ^ i % 2:=Nat.and_one_is_mod _
      rw [this,UO _ (by omega)]
    have em:t % 2 ^ (i+1)=t % 2 ^ i+2 ^ i * (t / 2 ^ i % 2):=by rw [Nat.pow_succ,Nat.mod_mul]
    rw [eb,Qg,W5]
    by_cases h1:t / 2 ^ i % 2=1
    · rw [decide_eq_true h1, QO, Qa, Qa, Qo, ZE, Yg _ (by omega)]
      refine Qp rfl ?_
      rw [Qo,tdiv_nat,Yg _ (by omega)]
      have hi8:(p+i) / 8 < l.length:=by omega
      obtain ⟨pp,p1,p2⟩:=(SlB.ofRow r60).at hi8
      rw [p1,p2 h60 _ (fun _ _=>rfl),Qa,Qa,Qo,ZE,Yg _ (by omega)]
      refine Qp rfl ?_
      rw [Qo,tmod_nat,DZ,Qo]
      have hm8:(p+i) % 8 < 8:=Nat.mod_lt _ (by decide)
      obtain ⟨s1,s2⟩:=shl_bit _ hm8
      rw [s1,Qo]
      have ex:VF .u8 (bI l[(p+i) / 8]) (Int.ofNat (UInt8.ofNat (2 ^ ((p+i) % 8))).toNat)=Int.ofNat (l[(p+i) / 8] ^^^ UInt8.ofNat (2 ^ ((p+i) % 8))).toNat:=by
        generalize UInt8.ofNat (2 ^ ((p+i) % 8))=c
        have h1:=(l[(p+i) / 8]).toNat_lt
        have h2:=c.toNat_lt
        show Qd .u8 (Int.ofNat (Nat.xor (toU .u8 (Int.ofNat (l[(p+i) / 8]).toNat)) (toU .u8 (Int.ofNat c.toNat))))=_
        have t1:toU .u8 (Int.ofNat (l[(p+i) / 8]).toNat)=(l[(p+i) / 8]).toNat:=Nat.mod_eq_of_lt (by show _ < 256;omega)
        have t2:toU .u8 (Int.ofNat c.toNat)=c.toNat:=Nat.mod_eq_of_lt (by show _ < 256;omega)
        rw [t1,t2,w8u,UInt8.toNat_xor]
        · rfl
        · exact Nat.xor_lt_two_pow (n:=8) h1 h2
      rw [ex]
      refine Row.setR r60 (by rw [b60];exact hb) hi8 (kk:=.i64) fun h90 r90 l90 n90=>?_
      refine HH _ _ _ ⟨rfl,_,rfl,r90,by rw [List.length_set];exact ll,?_,⟨l90.base.trans lo.base,Nat.le_trans lo.next l90.next,fun j hj=>(l90.get j hj).trans (lo.get j hj)⟩⟩
      rw [Qa0,lv,s2,← Nat.pow_add,show (p+i) % 8+8 * ((p+i) / 8)=p+i by omega,em,h1,Nat.mul_one,Nat.xor_assoc]
      congr 1
      have ax:=QdK i (Nat.mod_lt t (Nat.two_pow_pos i)) 1
      rw [Nat.mul_one] at ax
      rw [ax,Nat.mul_comm (t % 2 ^ i ^^^ 2 ^ i),Qda,Nat.mul_comm (2 ^ p) (t % 2 ^ i),← Nat.pow_add]
    · rw [decide_eq_false h1, Qr]
      have h2:t / 2 ^ i % 2=0:=by omega
      exact HH _ _ _ ⟨rfl,l,rfl,r60,ll,by rw [em,h2,Nat.mul_zero,Nat.add_zero];exact lv,lo⟩
  · rintro x h60 self ⟨l, rfl, r60, ll, lv, lo⟩
    dsimp only
    rw [Qa,Qa,Qg,ZA (by omega),Bool.not_true,Qr]
    rw [Nat.mod_eq_of_lt l3] at lv
    exact hk _ l p _ (SlB.ofRow r60) ll lv lo
end
end Go.Proofs.YtfgdelkdmdmfgaaDoor
namespace Go.Am
open Go
set_option linter.all false
def Xt (n:Nat):List AV:=[.int .i64 (Int.ofNat n)]
theorem Nr (n:Nat):(Xt n).length=1:=rfl
def GrX (N:Nat) (h:H) (v:AV) (l:List Nat):Prop:=∃ id m ex,v=.slice id 0 l.length l.length 1 ex∧N≤id∧id < h.next∧h.get id=.cells m 3 (l.flatMap Xt)
theorem GrX.row {N:Nat} {h:H} {v:AV} {l:List Nat} (g:GrX N h v l):RowAt Xt 1 h v l:=by
  obtain ⟨id,m,ex,g1,_,g3,g4⟩:=g
  exact .inr ⟨id,l.length,ex,m,3,g1,g4,g3⟩
theorem GrX.ap {N:Nat} {h:H} {v:AV} {l:List Nat} {a j c tj:Nat} {mj ex:Bool} {k:AV→H→Prop} (g:GrX N h v l) (hj:h.get j=.cells mj tj (Xt a)) (hb:h.base≤N) (hn:N≤h.next) (hl:(l.length+1) * 8≤Qe)
    (hk:∀ v' h',GrX N h' v' (l++[a])→Only (Yp v) h h'→k v' h'):apC 3 1 8 v (.slice j 0 1 c 1 ex) h k:=by
  unfold apC Qb8
  simp only [Zu,hj,Z6]
  have e1:Z4 (Nat.mul 1 1) (Yh 0 (Xt a))=some (Xt a):=rfl
  rw [e1,Qy]
  obtain ⟨id,m,ex',rfl,g2,g3,g4⟩:=g
  simp only [Zu,g4,Z6,Zb]
  rw [show Nat.add l.length 1=l.length+1 from rfl]
  have e2:Nat.ble (l.length+1) l.length=false:=by
    cases q:Nat.ble (l.length+1) l.length
    · rfl
    · rw [Qk] at q;omega
  rw [e2,Qr]
  have hlen:=ZS Nr l
  have e3:Z4 (Nat.mul l.length 1) (Yh 0 (l.flatMap Xt))=some (l.flatMap Xt):=by
    rw [WM,List.drop_zero,Y4 (by rw [hlen];exact Nat.le_refl _),List.take_of_length_le (by rw [hlen];exact Nat.le_refl _)]
  refine Qp ((Qk _ _).2 hl) ?_
  rw [e3,Qy,KM]
  cases ex' with
  | true =>
    rw [QO,QW]
    have o2:Only noL h (QI h (.cells false 3 (l.flatMap Xt++Xt a))):=(Low.push _ _ _ (Nat.le_refl _)).only
    refine hk _ _ ⟨h.next,false,false,?_,hn,Nat.lt_succ_self _,?_⟩ (o2.imp fun _ _ c=>c.elim)
    · rw [List.length_append];rfl
    · rw [ZG,if_pos rfl];simp
  | false=>
  rw [Qr]
  refine Qp rfl (Qp rfl (Qp rfl ?_))
  rw [YX _ g3 (by omega),QW]
  have o1:Only (fun i=>i=id) h (Zt h id .dead):=⟨rfl,Nat.le_refl _,fun i hi hne=>by rw [QU _ _ _ g3,if_neg hne],fun i t f g' s e'=>by rw [QU _ _ _ g3,if_neg (by rintro rfl;rw [g4] at e';cases e')]⟩
  have o2:Only noL (Zt h id .dead) (QI (Zt h id .dead) (.cells true 3 (l.flatMap Xt++Xt a))):=(Low.push _ _ _ (Nat.le_refl _)).only
  refine hk _ _ ⟨h.next,true,false,?_,hn,Nat.lt_succ_self _,?_⟩ ((o1.trans o2 fun _ _ c=>c.elim).imp fun i _ c=>ZP.2 c)
  · rw [List.length_append];rfl
  · rw [ZG,WG,if_pos rfl];simp
theorem GrX.only {N:Nat} {h h':H} {v:AV} {l:List Nat} {L:Nat→Prop} (g:GrX N h v l) (o:Only L h h') (hn:XZ L v):GrX N h' v l:=by
  obtain ⟨id,m,ex,rfl,g2,g3,g4⟩:=g
  exact ⟨id,m,ex,rfl,g2,Nat.lt_of_lt_of_le g3 o.next,o.at g4 rfl (hn id (ZP.2 rfl))⟩
theorem GrX.blk {N:Nat} {h:H} {v:AV} {l:List Nat} (g:GrX N h v l) {i:Nat} (b:Yp v i):N≤i∧i < h.next∧∃ m,h.get i=.cells m 3 (l.flatMap Xt):=by
  obtain ⟨id,m,ex,rfl,g2,g3,g4⟩:=g
  rw [ZP.1 b];exact ⟨g2,g3,m,g4⟩
def WZ (pre y fr post:List UInt8) (i:Nat):List UInt8:=pre++((y.take i++fr.drop i)++post)
theorem Qax {pre y fr post:List UInt8} {i:Nat} (hl:y.length=fr.length) (hi:i≤fr.length):(WZ pre y fr post i).length=pre.length+(fr.length+post.length):=by
  unfold WZ;simp;omega
theorem mix_0 (pre y fr post:List UInt8):WZ pre y fr post 0=pre++(fr++post):=by unfold WZ;simp
theorem mix_all {pre y fr post:List UInt8} (hl:y.length=fr.length):WZ pre y fr post fr.length=pre++(y++post):=by
  unfold WZ;rw [List.drop_length,List.append_nil,List.take_of_length_le (by omega)]
theorem DA {pre y fr post:List UInt8} {i:Nat} (hi:i < fr.length):WZ pre y fr post i=(pre++y.take i)++(fr[i]::(fr.drop (i+1)++post)):=by
  unfold WZ
  rw [List.drop_eq_getElem_cons hi]
  simp only [List.append_assoc,List.cons_append]
theorem Qde {pre y fr post:List UInt8} {i:Nat} (hl:y.length=fr.length) (hi:i < fr.length) (h:pre.length+i < (WZ pre y fr post i).length):(WZ pre y fr post i)[pre.length+i]=fr[i]:=by
  rw [List.getElem_of_eq (DA hi),List.getElem_append_right (by rw [List.length_append,List.length_take];omega)]
  have:pre.length+i - (pre++y.take i).length=0:=by rw [List.length_append,List.length_take];omega
  simp only [this,List.getElem_cons_zero]
theorem Qdd {pre y fr post:List UInt8} {i:Nat} (hl:y.length=fr.length) (hi:i < fr.length):(WZ pre y fr post i).set (pre.length+i) (y[i]'(by omega))=WZ pre y fr post (i+1):=by
  have hy:i < y.length:=by omega
  have e:pre.length+i=(pre++y.take i).length:=by rw [List.length_append,List.length_take];omega
  rw [DA hi,e,List.set_append_right _ _ (Nat.le_refl _),Nat.sub_self]
  show (pre++y.take i)++(y[i]::(fr.drop (i+1)++post))=_
  unfold WZ
  rw [List.take_succ_eq_append_getElem hy]
  simp only [List.append_assoc,List.cons_append,List.nil_append]
theorem mix_same {pre y fr post:List UInt8} {i:Nat} (hl:y.length=fr.length) (hi:i < fr.length) (e:y[i]'(by omega)=fr[i]):WZ pre y fr post (i+1)=WZ pre y fr post i:=by
  have h2:=Qax (pre:=pre) (post:=post) hl (Nat.le_of_lt hi)
  have h3:pre.length+i < (WZ pre y fr post i).length:=by rw [h2];omega
  rw [← Qdd hl hi,e,← Qde (pre:=pre) (post:=post) hl hi h3,List.set_getElem_self]
end Go.Am
namespace Go.Proofs.YtfgdelkdmdmfgaaDoor
open Go Go.Am
set_option linter.all false
set_option maxRecDepth 100000
theorem names_one {fs : Fs} {N c : Nat} {x : Int} {d : List UInt8} (o : LgOn [(x, d)] fs) (i : Inv fs N c) : fs.sure.names = [(QT 1, x)] := by
  have g:=i.sure
  have n1:Zh fs.sure.names (QT 1)=some x:=o.lg.nm1 0 (by show 0 < 1;omega)
  have all:∀ p∈fs.sure.names,p=(QT 1,x):=fun p hp=>by
    have e:=Qci (s:=p.1) (x:=p.2) g.ns hp
    by_cases hs:p.1=QT 1
    · rw [hs, n1] at e; injection e with e
      exact Prod.ext hs e.symm
    · have := o.lg.nm2 p.1 fun j hj => by
        have hj:j < 1:=hj
        obtain rfl:j=0:=by omega
        exact hs
      rw [this] at e;cases e
  cases hl:fs.sure.names with
  | nil=>rw [hl] at n1;cases n1
  | cons p l =>
    rw [hl] at all
    have h1:=all p List.mem_cons_self
    cases l with
    | nil=>rw [h1]
    | cons q l =>
      have h2:=all q (List.mem_cons_of_mem _ List.mem_cons_self)
      have hns:=g.ns
      rw [hl] at hns
      have:=(List.pairwise_cons.1 hns).1 q List.mem_cons_self
      rw [h1,h2] at this
      exact absurd rfl (QdE this)
theorem LgOn.space {fs:Fs} {N c:Nat} {x:Int} {d:List UInt8} (o:LgOn [(x,d)] fs) (i:Inv fs N c) (hc:c * N≤4611686018427387904):fs.space=16777216 - (d.length:Int):=by
  rw [space_is i hc (by rw [o.lg.room];decide) o.on,o.lg.room,o.held,names_one o i]
  show 16777216 - (((QG fs.sure.files x).length+0:Nat):Int)=_
  have:=o.lg.dat 0 (by show 0 < 1;omega)
  have e:QG fs.sure.files x=d:=this
  rw [e];rfl
theorem LgOn.alter {fs:Fs} {x:Int} {d:List UInt8} (o:LgOn [(x,d)] fs) (hx:x < fs.next) (d':List UInt8):LgOn [(x,d')] (fs.altered x d'):=by
  refine ⟨⟨fun i hi=>?_,fun s hs=>?_,fun i hi=>?_,(by show 1 < 99;decide),o.lg.room,fun y hy=>?_⟩,o.w,o.on⟩
  · have hi : i < 1 := hi
    obtain rfl:i=0:=by omega
    exact o.lg.nm1 0 (by show 0 < 1;omega)
  · exact o.lg.nm2 s fun i hi=>hs i hi
  · have hi : i < 1 := hi
    obtain rfl:i=0:=by omega
    show QG (XN fs.sure.files x d') x=d'
    rw [Je,if_pos rfl]
  · have hy : fs.next ≤ y := hy
    show QG (XN fs.sure.files x d') y=[]
    rw [Je,if_neg (by omega)]
    exact o.lg.fresh y hy
theorem fits_alter {fs:Fs} {x:Int} {d d':List UInt8} {M:Nat} (o:LgOn [(x,d)] fs) (fit:fs.Fits M) (hd:d'.length≤M):(fs.altered x d').Fits M:=by
  obtain ⟨n,h1,h2⟩:=fit
  refine ⟨M,fun p hp=>?_,?_⟩
  · rcases QbK hp with rfl | hp
    · exact hd
    · have:=h1 p hp;omega
  · show M + Wp fs.wait ≤ M
    rw [o.w];exact Nat.le_refl _
theorem Np {h:H} {g:FsG} {fs:Fs} (f:FsAt h g fs) {i:Nat} (o:Own g i) {m:Bool} {cs:List AV} (e:h.get i=.cells m 3 cs):False:=by
  obtain ⟨w,e1,e2⟩:=f.obj
  rcases o with rfl | rfl | rfl | o
  · rw [e1] at e;injection e with _ e _;cases e
  · obtain ⟨es,e3,_⟩:=f.tree.files;rw [e3] at e;cases e
  · rw [f.tree.names] at e;cases e
  · rcases e2 with ⟨_, _, h1⟩ | ⟨hw, id, mv, cs', h1, h2, h3, h4, h5⟩
    · rw [h1] at o;cases o
    · rw [h1] at o; injection o with o; subst o
      rw [h4] at e
      injection e with _ e _;cases e
theorem GrX.nxt {N:Nat} {h h':H} {v:AV} {l:List Nat} (q:GrX N h v l) {g g':FsG} {fs:Fs} (f:FsAt h g fs) {W seq sg:Nat} {br:Bool} (w:WalAt h W g seq sg br) (n:NxtX (isW W) h g h' g'):GrX N h' v l :=
  q.only n.o fun i b c=>by
    obtain ⟨_,_,m,e⟩:=q.blk b
    rcases c with c | c
    · exact Np f c e
    · have c : i = W := c
      rw [c,w.at_] at e;injection e with _ e _;cases e
theorem GrX.mf {N:Nat} {h h':H} {v:AV} {l:List Nat} (q:GrX N h v l) {g:FsG} {fs:Fs} (f:FsAt h g fs) (o:Only (· = g.mf) h h'):GrX N h' v l :=
  q.only o fun i b c=>by
    obtain ⟨_,_,m,e⟩:=q.blk b
    exact Np f (.inr (.inl c)) e
theorem Jg:∀ (ws:List Bt),(∀ b∈ws,Y6 b.2=Int.ofNat 0∧b.1≤1073741824)→(ZC ws).length≤400012 * ws.length
  | [],_=>Nat.zero_le _
  | b :: ws, h => by
    have ih:=Jg ws (fun x hx=>h x (List.mem_cons_of_mem _ hx))
    obtain ⟨hb,hs⟩:=h b List.mem_cons_self
    have:=K4 hs hb
    have e:ZC (b::ws)=Qs (YK b.1 b.2)++ZC ws:=rfl
    rw [e,List.length_append,Zd,List.length_cons,Nat.mul_add]
    omega
theorem K6 (a b:List Bt):ZC (a++b)=ZC a++ZC b:=by
  unfold ZC V6
  rw [List.map_append,List.flatMap_append]
end Go.Proofs.YtfgdelkdmdmfgaaDoor
