import Derived.Test.YtfgdelkdmdmfgaaDoorWaJ
namespace Go.Proofs.YtfgdelkdmdmfgaaDoor
open Go Go.Am
set_option linter.all false
set_option maxRecDepth 100000
theorem G3 {mo:Nat} {r:List UInt8} {v:Nat} {t:List UInt8} (h:N6 r mo=some (v,t)):QM mo (r,false)=(v,(t,false)):=by
  unfold QM;rw [if_neg (by simp)];simp only [h]
section
variable {KS:Str→Int→H→Prop}
end
theorem uv_byte {c:UInt8} (h:c.toNat < 128):uv c.toNat=[c]:=by
  rw [Yb h]
  congr 1
  exact UInt8.toNat_inj.1 (by rw [WD (by omega)])
theorem Qdw {c:UInt8} {t:List UInt8} (h:c.toNat≤1):QM 1 (c::t,false)=(c.toNat,(t,false)) :=
  G3 (by have:=Xu (v:=c.toNat) (mo:=1) (tail:=t) h;rw [uv_byte (by omega)] at this;exact this)
theorem Qbx {n f:Nat} {r r':List UInt8} {acc:List Wt} (h:QM 1 (r,false)=(f,(r',false))):Z9 (n+1) (r,false) acc=if f=1 then Z9 n (Zv 512 (r',false)).2 (acc++[((Zv 512 (r',false)).1,[],true)])
    else Z9 n (Zv 4096 (Zv 512 (r',false)).2).2 (acc++[((Zv 512 (r',false)).1,(Zv 4096 (Zv 512 (r',false)).2).1,false)]):=by
  have e:Z9 (n+1) (r,false) acc=if (false:Bool)=true then ((r,false),acc) else
      if (QM 1 (r,false)).1=1 then Z9 n (Zv 512 (QM 1 (r,false)).2).2 (acc++[((Zv 512 (QM 1 (r,false)).2).1,[],true)])
      else Z9 n (Zv 4096 (Zv 512 (QM 1 (r,false)).2).2).2 (acc++[((Zv 512 (QM 1 (r,false)).2).1,(Zv 4096 (Zv 512 (QM 1 (r,false)).2).2).1,false)]):=rfl
  rw [e,if_neg (by decide),h]
section
variable {KD:AV→Int→H→Prop}
end
end Go.Proofs.YtfgdelkdmdmfgaaDoor
