import Derived.Test.YtbcfpeelkaoljaaDoorWaK
import Derived.Test.YtbcfpeelkaoljaaDoorAmL7
namespace Go.Proofs.YtbcfpeelkaoljaaDoor
open Go Go.Am
set_option linter.all false
set_option maxRecDepth 100000
def dg (n:Nat):UInt8:=UInt8.ofNat (48+n % 10)
def Xa:Nat→Nat→List UInt8
  | 0,_=>[]
  | k+1,n=>Xa k (n / 10)++[dg n]
theorem Qb1:∀ (k n:Nat),(Xa k n).length=k
  | 0,_=>rfl
  | k + 1, n => by
    show (Xa k (n / 10)++[dg n]).length=_
    rw [List.length_append,Qb1 k];rfl
theorem NO:∀ (k m n:Nat),n < 10 ^ k→Xa (k+m) n=List.replicate m 48++Xa k n
  | 0,0,n,h=>rfl
  | 0, m + 1, n, h => by
    have h:n < 1:=h
    obtain rfl:n=0:=by omega
    have ih:=NO 0 m 0 (by decide)
    rw [Nat.zero_add] at ih ⊢
    show Xa m (0 / 10)++[dg 0]=_
    rw [show (0:Nat) / 10=0 from rfl,ih,List.replicate_succ'];simp [Xa];rfl
  | k + 1, m, n, h => by
    have ih:=NO k m (n / 10) (by rw [Nat.pow_succ] at h;omega)
    rw [show k+1+m=(k+m)+1 from by omega]
    show Xa (k+m) (n / 10)++[dg n]=List.replicate m 48++(Xa k (n / 10)++[dg n])
    rw [ih,List.append_assoc]
section
variable {KS:Str→H→Prop}
theorem Ye (a b:Nat):Int.add (Int.ofNat a) (Int.ofNat b)=Int.ofNat (a+b):=rfl
theorem Qdq (a b:Nat):Int.mul (Int.ofNat a) (Int.ofNat b)=Int.ofNat (a * b):=rfl
theorem WS (m:Nat) (h:m < 9223372036854775808):Qc .i64 (Int.ofNat m)=Int.ofNat m:=Zg (kk:=.i64) h
theorem Qa4 (m:Nat) (h:m < 4294967296):Qc .u32 (Int.ofNat m)=Int.ofNat m:=Zg (kk:=.u32) h
theorem Qa9 (a b:Nat) (h:b≤a):Int.sub (Int.ofNat a) (Int.ofNat b)=Int.ofNat (a - b):=sub_nat h
theorem QcV {s:Str} {l u:Nat} {k1 k2:IntKind} (hu:u≤s.len) (hl:l≤u) (k:Str→Prop):Qba (.str s) (some (.int k1 (Int.ofNat l))) (some (.int k2 (Int.ofNat u))) k=k (s.sub l u):=by
  unfold Qba
  rw [VS,Uf,Uf,(Qh _ _).2 hu,(Qh _ _).2 hl,UT,UT,WM]
theorem one_sub:∀ d:Nat,d < 10→Str.sub ⟨36,93621433862240650313326231306435056417042768930449266319129758623240466503934737414522⟩ d (d+1)=Str.of (Xa 1 d):=by decide +kernel
theorem two_sub:∀ d:Nat,d < 100→Str.sub ⟨200,8369396053099643259884660439900312228746471110943504458504829912206407100469475510520505676855750014530596077689858408204562721349408824591789441711103775826291439126061900675989976254244761425382494394669896706626295868329681710377411642562040512013377776180902291979747008038411282346274188424097310996521951660972735479027990947060043115083917949168200323041593656569302669535377774123378085539195783572932112166539323561441937920580889744256865042652178519653545620815178381625⟩ (d * 2) (d * 2+2)=Str.of (Xa 2 d):=by decide +kernel
def Jl (n:Nat):Nat:=if n < 10 then 1 else if n < 100 then 2 else if n < 1000 then 3 else if n < 10000 then 4 else if n < 100000 then 5 else 6
theorem t87 {n:Nat} {h:H} (hn:n < 100) (hk:KS (Str.of (Xa (Jl n) n)) h):Qcj J0 (Int.ofNat n) h KS:=by
  unfold Qcj
  rw [Qi,ZC]
  by_cases h1:n < 10
  · rw [decide_eq_true h1, QU, Qx, Jh n (by omega), QcV (by show n + 1 ≤ 36; omega) (Nat.le_succ _), one_sub n h1]
    unfold Jl at hk;rw [if_pos h1] at hk
    exact hk
  · rw [decide_eq_false h1, Qq]
    simp only [Qx,Qdq]
    rw [WS _ (by omega),Ye,WS _ (by omega),QcV (by show n * 2+2≤200;omega) (by omega),two_sub n hn]
    unfold Jl at hk;rw [if_neg h1,if_pos hn] at hk
    exact hk
theorem GA (m c:Nat):Uo (Int.ofNat m) c=Int.ofNat (m / 2 ^ c):=by
  unfold Uo
  show Int.ofNat (m >>> c)=_
  rw [Nat.shiftRight_eq_div_pow]
section
variable {KI:Int→H→Prop}
end
end
end Go.Proofs.YtbcfpeelkaoljaaDoor
namespace Go.Proofs.YtbcfpeelkaoljaaDoor
open Go Go.Am
set_option linter.all false
set_option maxRecDepth 100000
def Gh:Nat→Str
  | 0=>⟨0,0⟩
  | 1=>⟨1,48⟩
  | 2=>⟨2,12336⟩
  | 3=>⟨3,3158064⟩
  | 4=>⟨4,808464432⟩
  | _=>⟨5,206966894640⟩
theorem zero_is:∀ m:Nat,m < 6→Gh m=Str.of (List.replicate m 48):=by decide +kernel
theorem rep0 (K:AV→Prop):K (.str (Gh 0))=g43 [.str ⟨1,48⟩,.int .i64 (Int.ofNat 0)] H0 fun r _=>K r:=by kernel_rfl
theorem rep1 (K:AV→Prop):K (.str (Gh 1))=g43 [.str ⟨1,48⟩,.int .i64 (Int.ofNat 1)] H0 fun r _=>K r:=by kernel_rfl
theorem rep2 (K:AV→Prop):K (.str (Gh 2))=g43 [.str ⟨1,48⟩,.int .i64 (Int.ofNat 2)] H0 fun r _=>K r:=by kernel_rfl
theorem rep3 (K:AV→Prop):K (.str (Gh 3))=g43 [.str ⟨1,48⟩,.int .i64 (Int.ofNat 3)] H0 fun r _=>K r:=by kernel_rfl
theorem rep4 (K:AV→Prop):K (.str (Gh 4))=g43 [.str ⟨1,48⟩,.int .i64 (Int.ofNat 4)] H0 fun r _=>K r:=by kernel_rfl
theorem rep5 (K:AV→Prop):K (.str (Gh 5))=g43 [.str ⟨1,48⟩,.int .i64 (Int.ofNat 5)] H0 fun r _=>K r:=by kernel_rfl
end Go.Proofs.YtbcfpeelkaoljaaDoor
