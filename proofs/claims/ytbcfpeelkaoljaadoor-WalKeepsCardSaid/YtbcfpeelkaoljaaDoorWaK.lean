import Derived.Test.YtbcfpeelkaoljaaDoorWaJ
namespace Go.Proofs.YtbcfpeelkaoljaaDoor
open Go Go.Am
set_option linter.all false
set_option maxRecDepth 100000
theorem G1 {mo:Nat} {r:List UInt8} {v:Nat} {t:List UInt8} (h:N6 r mo=some (v,t)):QN mo (r,false)=(v,(t,false)):=by
  unfold QN;rw [if_neg (by simp)];simp only [h]
section
variable {KS:Str→Int→H→Prop}
end
theorem uv_byte {c:UInt8} (h:c.toNat < 128):uv c.toNat=[c]:=by
  rw [Yg h]
  congr 1
  exact UInt8.toNat_inj.1 (by rw [WE (by omega)])
theorem QdI {c:UInt8} {t:List UInt8} (h:c.toNat≤1):QN 1 (c::t,false)=(c.toNat,(t,false)) :=
  G1 (by have:=XC (v:=c.toNat) (mo:=1) (tail:=t) h;rw [uv_byte (by omega)] at this;exact this)
theorem QbH {n f:Nat} {r r':List UInt8} {acc:List Wt} (h:QN 1 (r,false)=(f,(r',false))):Yc (n+1) (r,false) acc=if f=1 then Yc n (Zx 512 (r',false)).2 (acc++[((Zx 512 (r',false)).1,[],true)])
    else Yc n (Zx 4096 (Zx 512 (r',false)).2).2 (acc++[((Zx 512 (r',false)).1,(Zx 4096 (Zx 512 (r',false)).2).1,false)]):=by
  have e:Yc (n+1) (r,false) acc=if (false:Bool)=true then ((r,false),acc) else
      if (QN 1 (r,false)).1=1 then Yc n (Zx 512 (QN 1 (r,false)).2).2 (acc++[((Zx 512 (QN 1 (r,false)).2).1,[],true)])
      else Yc n (Zx 4096 (Zx 512 (QN 1 (r,false)).2).2).2 (acc++[((Zx 512 (QN 1 (r,false)).2).1,(Zx 4096 (Zx 512 (QN 1 (r,false)).2).2).1,false)]):=rfl
  rw [e,if_neg (by decide),h]
section
variable {KD:AV→Int→H→Prop}
end
end Go.Proofs.YtbcfpeelkaoljaaDoor
