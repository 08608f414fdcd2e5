import Derived.Test.YtfgdelkdmdmfgaaDoorWaK
import Derived.Test.YtfgdelkdmdmfgaaDoorAmL7
namespace Go.Proofs.YtfgdelkdmdmfgaaDoor
open Go Go.Am
set_option linter.all false
set_option maxRecDepth 100000
def dg (n:Nat):UInt8:=UInt8.ofNat (48+n % 10)
def K5:Nat→Nat→List UInt8
  | 0,_=>[]
  | k+1,n=>K5 k (n / 10)++[dg n]
theorem QbS:∀ (k n:Nat),(K5 k n).length=k
  | 0,_=>rfl
  | k + 1, n => by
    show (K5 k (n / 10)++[dg n]).length=_
    rw [List.length_append,QbS k];rfl
theorem NP:∀ (k m n:Nat),n < 10 ^ k→K5 (k+m) n=List.replicate m 48++K5 k n
  | 0,0,n,h=>rfl
  | 0, m + 1, n, h => by
    have h:n < 1:=h
    obtain rfl:n=0:=by omega
    have ih:=NP 0 m 0 (by decide)
    rw [Nat.zero_add] at ih ⊢
    show K5 m (0 / 10)++[dg 0]=_
    rw [show (0:Nat) / 10=0 from rfl,ih,List.replicate_succ'];simp [K5];rfl
  | k + 1, m, n, h => by
    have ih:=NP k m (n / 10) (by rw [Nat.pow_succ] at h;omega)
    rw [show k+1+m=(k+m)+1 from by omega]
    show K5 (k+m) (n / 10)++[dg n]=List.replicate m 48++(K5 k (n / 10)++[dg n])
    rw [ih,List.append_assoc]
section
variable {KS:Str→H→Prop}
theorem tmod_nat (a b:Nat):Int.tmod (Int.ofNat a) (Int.ofNat b)=Int.ofNat (a % b):=rfl
theorem tdiv_nat (a b:Nat):Int.tdiv (Int.ofNat a) (Int.ofNat b)=Int.ofNat (a / b):=rfl
theorem ZE (a b:Nat):Int.add (Int.ofNat a) (Int.ofNat b)=Int.ofNat (a+b):=rfl
theorem Qaw (a b:Nat):Int.mul (Int.ofNat a) (Int.ofNat b)=Int.ofNat (a * b):=rfl
theorem Yg (m:Nat) (h:m < 9223372036854775808):Qd .i64 (Int.ofNat m)=Int.ofNat m:=Zi (kk:=.i64) h
theorem UO (m:Nat) (h:m < 4294967296):Qd .u32 (Int.ofNat m)=Int.ofNat m:=Zi (kk:=.u32) h
theorem w8u (m:Nat) (h:m < 256):Qd .u8 (Int.ofNat m)=Int.ofNat m:=Zi (kk:=.u8) h
theorem Kt (a b:Nat) (h:b≤a):Int.sub (Int.ofNat a) (Int.ofNat b)=Int.ofNat (a - b):=sub_nat h
theorem QcM {s:Str} {l u:Nat} {k1 k2:IntKind} (hu:u≤s.len) (hl:l≤u) (k:Str→Prop):Qa5 (.str s) (some (.int k1 (Int.ofNat l))) (some (.int k2 (Int.ofNat u))) k=k (s.sub l u):=by
  unfold Qa5
  rw [Wk,YT,YT,(Qk _ _).2 hu,(Qk _ _).2 hl,Uf,Uf,Vt]
theorem one_sub:∀ d:Nat,d < 10→Str.sub ⟨36,93621433862240650313326231306435056417042768930449266319129758623240466503934737414522⟩ d (d+1)=Str.of (K5 1 d):=by decide +kernel
theorem two_sub:∀ d:Nat,d < 100→Str.sub ⟨200,8369396053099643259884660439900312228746471110943504458504829912206407100469475510520505676855750014530596077689858408204562721349408824591789441711103775826291439126061900675989976254244761425382494394669896706626295868329681710377411642562040512013377776180902291979747008038411282346274188424097310996521951660972735479027990947060043115083917949168200323041593656569302669535377774123378085539195783572932112166539323561441937920580889744256865042652178519653545620815178381625⟩ (d * 2) (d * 2+2)=Str.of (K5 2 d):=by decide +kernel
def Jh (n:Nat):Nat:=if n < 10 then 1 else if n < 100 then 2 else if n < 1000 then 3 else if n < 10000 then 4 else if n < 100000 then 5 else 6
theorem t87 {n:Nat} {h:H} (hn:n < 100) (hk:KS (Str.of (K5 (Jh n) n)) h):Qca J0 (Int.ofNat n) h KS:=by
  unfold Qca
  rw [Qg,ZI]
  by_cases h1:n < 10
  · rw [decide_eq_true h1, QO, Qo, Ud n (by omega), QcM (by show n + 1 ≤ 36; omega) (Nat.le_succ _), one_sub n h1]
    unfold Jh at hk;rw [if_pos h1] at hk
    exact hk
  · rw [decide_eq_false h1, Qr]
    simp only [Qo,Qaw]
    rw [Yg _ (by omega),ZE,Yg _ (by omega),QcM (by show n * 2+2≤200;omega) (by omega),two_sub n hn]
    unfold Jh at hk;rw [if_neg h1,if_pos hn] at hk
    exact hk
noncomputable def QdT (y:Nat):Nat:=Str.get ⟨256,496986003408712215933005303621146343841837811690876167382323004466384420695090407243345123874780946046625255262057845613767806773758184921447759720770971536008171983842311960805720366577116933250839345203839274948261284255908394484732272583221484877694546905335834403051067785895034095251181560891789708940188598129052595634438001880866652824740680664595948164050600812232986714152902334120417949232733424961741260388658846598210939813666227264727603044226856020347194099943897342244906131705541414413428559898943151040826816076322978570758226444464494629814583418847495712557856038296917933182380796641777551368⟩ y
theorem lenT_is:∀ y:Nat,y < 256→1≤y→1≤QdT y∧QdT y≤8∧2 ^ (QdT y - 1)≤y∧y < 2 ^ QdT y:=by decide +kernel
theorem ixs_at {s:Str} {i:Nat} {kk:IntKind} (hi:i < s.len) (k:Int→Prop):WN (.str s) (.int kk (Int.ofNat i)) k=k (Int.ofNat (s.get i)):=by
  unfold WN
  rw [Wk]
  show ck (Nat.blt i s.len) (fN (s.get i) fun c=>k (Int.ofNat c))=_
  rw [(QH _ _).2 hi,Uf,Zb]
theorem WA (m c:Nat):Ve (Int.ofNat m) c=Int.ofNat (m / 2 ^ c):=by
  unfold Ve
  show Int.ofNat (m >>> c)=_
  rw [Nat.shiftRight_eq_div_pow]
section
variable {KI:Int→H→Prop}
end
end
end Go.Proofs.YtfgdelkdmdmfgaaDoor
namespace Go.Proofs.YtfgdelkdmdmfgaaDoor
open Go Go.Am
set_option linter.all false
set_option maxRecDepth 100000
def X8:Nat→Str
  | 0=>⟨0,0⟩
  | 1=>⟨1,48⟩
  | 2=>⟨2,12336⟩
  | 3=>⟨3,3158064⟩
  | 4=>⟨4,808464432⟩
  | _=>⟨5,206966894640⟩
theorem zero_is:∀ m:Nat,m < 6→X8 m=Str.of (List.replicate m 48):=by decide +kernel
theorem rep0 (K:AV→Prop):K (.str (X8 0))=g42 [.str ⟨1,48⟩,.int .i64 (Int.ofNat 0)] H0 fun r _=>K r:=by kernel_rfl
theorem rep1 (K:AV→Prop):K (.str (X8 1))=g42 [.str ⟨1,48⟩,.int .i64 (Int.ofNat 1)] H0 fun r _=>K r:=by kernel_rfl
theorem rep2 (K:AV→Prop):K (.str (X8 2))=g42 [.str ⟨1,48⟩,.int .i64 (Int.ofNat 2)] H0 fun r _=>K r:=by kernel_rfl
theorem rep3 (K:AV→Prop):K (.str (X8 3))=g42 [.str ⟨1,48⟩,.int .i64 (Int.ofNat 3)] H0 fun r _=>K r:=by kernel_rfl
theorem rep4 (K:AV→Prop):K (.str (X8 4))=g42 [.str ⟨1,48⟩,.int .i64 (Int.ofNat 4)] H0 fun r _=>K r:=by kernel_rfl
theorem rep5 (K:AV→Prop):K (.str (X8 5))=g42 [.str ⟨1,48⟩,.int .i64 (Int.ofNat 5)] H0 fun r _=>K r:=by kernel_rfl
end Go.Proofs.YtfgdelkdmdmfgaaDoor
