import Derived.Test.YtfgdelkdmdmfgaaDoorPxC
namespace Go.Am
open Go
set_option linter.all false
def Fs.new (room:Int):Fs:=⟨⟨[],[]⟩,[],room,0,false,false,0,0⟩
theorem Fs.new_inv (room:Int):Inv (Fs.new room) 0 0 :=
  ⟨⟨0,fun p hp=>(by cases hp),Nat.le_refl _⟩,fun j=>by
    have:ZL (Fs.new room).sure.names ((Fs.new room).wait.take j)=[]:=by unfold Fs.new;simp [ZL]
    rw [this];exact GoodN.nil _ _,fun s hs=>(by cases hs),⟨Int.le_refl _,Int.le_refl _⟩,⟨Int.le_refl _,Int.le_refl _⟩,fun h=>(by cases h)⟩
end Go.Am
namespace Go.Proofs.YtfgdelkdmdmfgaaDoor
open Go Go.Am
set_option linter.all false
set_option maxRecDepth 100000
theorem p10 {h:H} {room:Int} {k:AV→Int→H→Prop} (hb:h.base≤h.next) (h0:0≤room) (h1:room≤1073741824) (hk:∀ h',FsAt h' ⟨h.next+2,h.next,h.next+1,none⟩ (Fs.new room)→Only noL h h'→k (.ptr (h.next+2) 0) 0 h'):s5 room h k:=by
  show s5G J0 _ h k
  unfold s5G
  rw [show ltI room (Int.ofNat 0)=false from Ys.2 h0,Qg]
  simp only [Qq,Qr,Qa,Qg,QF]
  rw [show ltI (Int.ofNat 1073741824) room=false from Ys.2 h1]
  simp only [Qm,Qr,QF]
  refine Zg fun h12 o12 n12 g12=>Zg fun h14 o14 n14 g14=>?_
  refine Qp rfl ?_
  rw [show Q7 0 [(AV.map h.next),(AV.map h12.next)] [(.nilm),(.nilm),(.nils),(.int .i64 0),(.int .i64 0),(.bool false),(.bool false),(.int .i64 0),(.int .i64 0),(.bool false)]=some [(.map h.next),(.map h12.next),(.nils),(.int .i64 0),(.int .i64 0),(.bool false),(.bool false),(.int .i64 0),(.int .i64 0),(.bool false)] from rfl,Qy]
  rw [show Q7 3 [(AV.int .i64 room)] [(.map h.next),(.map h12.next),(.nils),(.int .i64 0),(.int .i64 0),(.bool false),(.bool false),(.int .i64 0),(.int .i64 0),(.bool false)]=some [(.map h.next),(.map h12.next),(.nils),(.int .i64 room),(.int .i64 0),(.bool false),(.bool false),(.int .i64 0),(.int .i64 0),(.bool false)] from rfl,Qy]
  rw [show Q7 9 [(AV.bool true)] [(.map h.next),(.map h12.next),(.nils),(.int .i64 room),(.int .i64 0),(.bool false),(.bool false),(.int .i64 0),(.int .i64 0),(.bool false)]=some [(.map h.next),(.map h12.next),(.nils),(.int .i64 room),(.int .i64 0),(.bool false),(.bool false),(.int .i64 0),(.int .i64 0),(.bool true)] from rfl,Qy]
  refine Zg fun h19 o19 n19 g19=>?_
  have e12:h12.next=h.next+1:=n12
  have e14:h14.next=h.next+2:=by omega
  rw [e14] at g19 ⊢
  have o:Only noL h h19:=(o12.trans o14 fun _ _=>id).trans o19 fun _ _=>id
  have gf:h19.get h.next=.smap []:=o19.at (o14.at g12 rfl id) rfl id
  have gn:h19.get (h.next+1)=.smap []:=by rw [← e12];exact o19.at g14 rfl id
  refine hk h19 ⟨by rw [o.base];show h.base≤h.next+2;omega,⟨.nils,?_,.inl ⟨rfl,rfl,rfl⟩⟩,?_⟩ o
  · rw [g19,e12];rfl
  · exact ⟨by rw [o.base];exact hb,by rw [o.base];show h.base≤h.next+1;omega,by show h.next≠h.next+1;omega,⟨[],gf,.nil⟩,gn⟩
end Go.Proofs.YtfgdelkdmdmfgaaDoor
