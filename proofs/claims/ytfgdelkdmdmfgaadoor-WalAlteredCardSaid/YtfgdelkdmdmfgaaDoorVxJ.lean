import Derived.Test.YtfgdelkdmdmfgaaDoorAmS2
import Derived.Test.YtfgdelkdmdmfgaaDoorVxH
noncomputable section
namespace Go.Am
open Go
set_option linter.all false
theorem Qdy (a b:Int):eqI a b=decide (a=b):=by rw [WV];rfl
def VR:Stp→Bool:=fun s=>!decide (s.kind=0)
def WX (n:Int):Stp→Bool:=fun s=>decide (s.kind=0) && decide (s.file=n)
def Fs.create (fs:Fs) (s:List UInt8):Int × Fs :=
  if fs.asked [s]≠0 then (fs.asked [s],fs) else if (Zh fs.held.names s).isSome then (9,fs)
  else ((fs.pend ⟨1,s,[],fs.next,[]⟩).1,{ (fs.pend ⟨1,s,[],fs.next,[]⟩).2 with next:=Qd .i64 (Int.add (fs.pend ⟨1,s,[],fs.next,[]⟩).2.next 1) })
def Fs.sync (fs:Fs) (s:List UInt8):Int × Fs:=if (fs.file s).2≠0 then ((fs.file s).2,fs) else fs.settle (WX (fs.file s).1)
def Fs.syncNames (fs:Fs):Int × Fs:=if fs.asked []≠0 then (fs.asked [],fs) else fs.settle VR
def Fs.read (fs:Fs) (a:List UInt8):List UInt8 × Int:=if (fs.file a).2≠0 then ([],(fs.file a).2) else (QG fs.held.files (fs.file a).1,0)
end Go.Am
namespace Go.Proofs.YtfgdelkdmdmfgaaDoor
open Go Go.Am
set_option linter.all false
set_option maxRecDepth 100000
theorem meant38 (g:FsG) (h:H):Qfo (gam J0 [(47,w47 s47),(51,w51 s51),(55,w55 s55),(65,w65 s65)]) (.func (.func 55) [] []) VR g h:=by
  intro s u hc K o hu hK
  show s55G J0 (.agg (s.cells u)) hc fun b h=>K (.bool b) h
  unfold s55G
  rw [ZZ]
  refine Zg fun h2 o2 n2 g2=>?_
  rw [Q9 g2 rfl,Qg,WV]
  exact hK h2 o2
theorem meant40 {g:FsG} {h:H} {j:Nat} {n:Int} (e:h.get j=.cells false 3 [.int .i64 n]) (hj:¬ Own g j):Qfo (gam J0 [(47,w47 s47),(51,w51 s51),(55,w55 s55),(65,w65 s65)]) (.func (.func 47) [] [.ptr j 0]) (WX n) g h:=by
  intro s u hc K o hu hK
  show s47G J0 (.agg (s.cells u)) (.ptr j 0) hc fun b h=>K (.bool b) h
  unfold s47G
  rw [ZZ]
  refine Zg fun h2 o2 n2 g2=>?_
  have e2:=o2.at (o.at e rfl hj) rfl id
  have:=hK h2 o2
  unfold WX at this
  rw [Q9 g2 rfl,Qg,Qdy]
  by_cases h0:s.kind=0
  · rw [decide_eq_true h0] at this
    rw [show decide (s.kind=Int.ofNat 0)=true from decide_eq_true h0]
    simp only [Qq,QO]
    rw [Q9 g2 rfl,Q9 e2 rfl,Qa,Qa,Qg,QS,Qm,Qdy]
    exact this
  · rw [decide_eq_false h0] at this
    rw [show decide (s.kind=Int.ofNat 0)=false from decide_eq_false h0]
    simp only [Qq,Qr]
    exact this
theorem p12 {h:H} {g:FsG} {fs:Fs} {k:Int→H→Prop} (f:FsAt h g fs) (fit:fs.Fits Qe) (hk:∀ h' g',FsAt h' g' fs.syncNames.2→Nxt h g h' g'→k fs.syncNames.1 h'):s37 (.ptr g.id 0) h k:=by
  show s37G J0 s46 s48 s55 _ h k
  unfold s37G
  refine p34 (l:=[]) f (.inl ⟨rfl,rfl⟩) (by show 0 < 4611686018427387904;omega) ?_
  rw [Qg]
  refine QP (fun h0=>?_) fun h0=>?_
  · have h0 : fs.asked [] ≠ 0 := Q4.1 (Am.not_true.1 h0)
    have:fs.syncNames=(fs.asked [],fs):=by unfold Fs.syncNames;rw [if_pos h0]
    rw [this] at hk
    exact hk h g f (Nxt.refl _ _)
  · have h0 : fs.asked [] = 0 := Zp.1 (ZT.1 h0)
    have:fs.syncNames=fs.settle VR:=by unfold Fs.syncNames;rw [if_neg (by rw [h0];simp)]
    rw [this] at hk
    exact p37 f fit (meant38 g h) hk
theorem p14 {h:H} {g:FsG} {fs:Fs} {s:List UInt8} {k:Int→H→Prop} (f:FsAt h g fs) (fit:fs.Fits Qe) (hk:∀ h' g',FsAt h' g' (fs.sync s).2→Nxt h g h' g'→k (fs.sync s).1 h'):s27 (.ptr g.id 0) (Str.of s) h k:=by
  show s27G J0 s29 s46 s47 _ _ h k
  unfold s27G
  refine p39 f fit fun h1 f1 o1=>?_
  refine Zg fun h5 o5 n5 g5=>?_
  refine WE g5 rfl rfl (by rw [o5.base];exact f1.wf) fun h6 o6 n6 g6=>?_
  have o16:Only noL h1 h6:=o5.trans o6 fun j hj e=>by omega
  have f6:=f1.only o16 fun _ _=>id
  have o06:=o1.trans o16 fun _ _=>id
  rw [Qg]
  refine QP (fun h0=>?_) fun h0=>?_
  · have h0 : (fs.file s).2 ≠ 0 := Q4.1 (Am.not_true.1 h0)
    have:fs.sync s=((fs.file s).2,fs):=by unfold Fs.sync;rw [if_pos h0]
    rw [this] at hk
    exact hk h6 g f6 (Nxt.pure g o06)
  · have h0 : (fs.file s).2 = 0 := Zp.1 (ZT.1 h0)
    have:fs.sync s=fs.settle (WX (fs.file s).1):=by unfold Fs.sync;rw [if_neg (by rw [h0];simp)]
    rw [this] at hk
    have hj:¬ Own g h1.next:=fun c=>by have:=Own.live f1 c;omega
    exact p37 f6 fit (meant40 g6 hj) fun h' g' f' nx=>hk h' g' f' ((Nxt.pure g o06).trans nx)
theorem p11 {h : H} {g : FsG} {fs : Fs} {s : List UInt8} {k : Int → H → Prop} (f : FsAt h g fs) (fit : fs.Fits Qe) (hl : (fs.wait.length + 1) * 72 ≤ Qe) (hk : ∀ h' g', FsAt h' g' (fs.create s).2 → Nxt h g h' g' → k (fs.create s).1 h') : s36 (.ptr g.id 0) (Str.of s) h k := by
  show s36G J0 s31 s45 s48 _ _ h k
  unfold s36G
  refine Zg fun h2 o2 n2 g2=>?_
  have f2:=f.only o2 fun _ _=>id
  refine p34 (l:=[s]) f2 (.inr ⟨h.next,1,true,rfl,g2⟩) (by show 1 < 4611686018427387904;omega) ?_
  rw [Qg]
  refine QP (fun h0=>?_) fun h0=>?_
  · have h0 : fs.asked [s] ≠ 0 := Q4.1 (Am.not_true.1 h0)
    have:fs.create s=(fs.asked [s],fs):=by unfold Fs.create;rw [if_pos h0]
    rw [this] at hk
    exact hk h2 g f2 (Nxt.pure g o2)
  · have h0 : fs.asked [s] = 0 := Zp.1 (ZT.1 h0)
    refine p35 f2 fit fun h6 mf mn t6 hmf hmn o6=>?_
    have o26:=o2.trans o6 fun _ _=>id
    have f6:=f.only o26 fun _ _=>id
    rw [ZZ]
    show op' (some (AV.map mn)) _
    rw [Qy,Qcm vt t6,Qy,Yi]
    show op' (some (AV.int .i64 (UL fs.held.names s))) _
    rw [Qy,Qa,Yi]
    show op' (some (AV.bool (Zh fs.held.names s).isSome)) _
    rw [Qy,Qm]
    refine QP (fun h1=>?_) fun h1=>?_
    · have : fs.create s = (9, fs) := by unfold Fs.create; rw [if_neg (by rw [h0]; simp), if_pos h1]
      rw [this] at hk
      exact hk h6 g f6 (Nxt.pure g o26)
    · have : fs.create s = ((fs.pend ⟨1, s, [], fs.next, []⟩).1, { (fs.pend ⟨1, s, [], fs.next, []⟩).2 with next := Qd .i64 (Int.add (fs.pend ⟨1, s, [], fs.next, []⟩).2.next 1) }) := by
        unfold Fs.create;rw [if_neg (by rw [h0];simp),if_neg (by rw [h1];simp)]
      rw [this] at hk
      obtain ⟨w,e1,_⟩:=f6.obj
      rw [QR,Qw,Q9 e1 rfl]
      refine p36 (s:=⟨1,s,[],fs.next,[]⟩) (u:=.nils) f6 (SlB.nil _) hl fun h19 g19 f19 nx=>?_
      have hg:=nx.id
      obtain ⟨w',e19,_⟩:=f19.obj
      rw [hg] at e19
      rw [QR,Qw,Q9 e19 rfl,Qo,QR,Qw]
      refine WE e19 rfl rfl (by rw [← hg];exact f19.bs) fun h25 o25 n25 g25=>?_
      have o25':Only (· = g19.id) h19 h25:=o25.imp fun _ _ c=>by rw [hg];exact c
      have e19':h19.get g19.id=.cells false 56 ((fs.pend ⟨1,s,[],fs.next,[]⟩).2.cells g19 w'):=by rw [hg];exact e19
      refine hk h25 g19 (f19.put o25' rfl rfl fun u e=>?_) (((Nxt.pure g o26).trans nx).trans ⟨rfl,o25'.imp fun _ _ c=>.inl c,fun _=>.inl⟩)
      have:u=w':=by rw [e19'] at e;injection e with _ _ e;unfold Fs.cells at e;injection e with _ e;injection e with _ e;injection e with e _;exact e.symm
      rw [this,hg,g25];rfl
theorem p20 {h:H} {g:FsG} {fs:Fs} {a:List UInt8} {k:AV→Int→H→Prop} (f:FsAt h g fs) (fit:fs.Fits Qe) (hk:∀ v h',FsAt h' g fs→Only noL h h'→SlB h' v (fs.read a).1→k v (fs.read a).2 h'):s10 (.ptr g.id 0) (Str.of a) h k:=by
  show s10G J0 s29 s30 s31 _ _ h k
  unfold s10G
  refine p39 f fit fun h1 f1 o1=>?_
  rw [Qg]
  refine QP (fun h0=>?_) fun h0=>?_
  · have h0 : (fs.file a).2 ≠ 0 := Q4.1 (Am.not_true.1 h0)
    have:fs.read a=([],(fs.file a).2):=by unfold Fs.read;rw [if_pos h0]
    rw [this] at hk
    exact hk _ h1 f1 o1 (SlB.nil _)
  · have h0 : (fs.file a).2 = 0 := Zp.1 (ZT.1 h0)
    have:fs.read a=(QG fs.held.files (fs.file a).1,0):=by unfold Fs.read;rw [if_neg (by rw [h0];simp)]
    rw [this] at hk
    refine p35 f1 fit fun h6 mf mn t6 hmf hmn o6=>?_
    rw [ZZ]
    show op' (some (AV.map mf)) _
    obtain ⟨v,e1,hv⟩:=Qdi vt t6 (fs.file a).1
    rw [Qy,e1,Qy]
    have o16:=o1.trans o6 fun _ _=>id
    obtain ⟨n,hbn,hfit⟩:=fit
    refine p42 hv t6.wf (by have:=(hbn.steps (t:=fs.sure) (l:=fs.wait)).get (fs.file a).1;exact Nat.le_trans this hfit) fun v' h' r o'=>?_
    have o:=o16.trans o' fun _ _=>id
    exact hk v' h' (f.only o fun _ _=>id) o (SlB.ofRow r)
end Go.Proofs.YtfgdelkdmdmfgaaDoor
namespace Go.Am
open Go
set_option linter.all false
def VX (fl:List (Int × List UInt8)):List (List UInt8 × Int)→Int→Int
  | [],n=>n
  | p::l,n=>VX fl l (Qd .i64 (Int.sub n (Int.ofNat (QG fl p.2).length)))
def Fs.space (fs:Fs):Int:=if fs.asked []≠0 then 0 else VX fs.held.files fs.held.names fs.room
end Go.Am
namespace Go.Proofs.YtfgdelkdmdmfgaaDoor
open Go Go.Am
set_option linter.all false
set_option maxRecDepth 100000
theorem lenOf_at {h:H} {j mf mn:Nat} {t:Tre} (q:TreeAt h mf mn t) (e:h.get j=.cells false 53 [.map mf,.map mn]) (x:Int) (k:Nat→Prop):lenOf (.ptr j 0) h (.int .i64 x) k=k (QG t.files x).length:=by
  unfold lenOf faP ldP
  rw [Qa,DX,Zb]
  dsimp only
  rw [DX,e,Z6]
  show op' (some (AV.map mf)) _=_
  obtain ⟨v,e1,hv⟩:=Qdi vt q x
  rw [Qy,e1,Qy,hv.len]
theorem NK {h:H} {j mf mn:Nat} {t:Tre} (q:TreeAt h mf mn t) (e:h.get j=.cells false 53 [.map mf,.map mn]):∀ (l:List (List UInt8 × Int)) (n:Int) (k:Int→Prop),JA (.ptr j 0) h (l.map Wn) n k=k (VX t.files l n)
  | [],n,k=>rfl
  | p :: l, n, k => by
    show lenOf (.ptr j 0) h (.int .i64 p.2) (fun x=>fI _ fun n'=>JA (.ptr j 0) h (l.map Wn) n' k)=_
    rw [lenOf_at q e,Qo,NK q e l]
    rfl
theorem p27 {h:H} {g:FsG} {fs:Fs} {k:Int→H→Prop} (f:FsAt h g fs) (fit:fs.Fits Qe) (hl:fs.held.names.length≤1000000) (hk:∀ h',FsAt h' g fs→Only noL h h'→k fs.space h'):N5 (.ptr g.id 0) h k:=by
  unfold N5
  refine p34 (l:=[]) f (.inl ⟨rfl,rfl⟩) (by show 0 < 4611686018427387904;omega) ?_
  rw [Qg]
  refine QP (fun h0=>?_) fun h0=>?_
  · have h0 : fs.asked [] ≠ 0 := Q4.1 (Am.not_true.1 h0)
    have:fs.space=0:=by unfold Fs.space;rw [if_pos h0]
    rw [this] at hk
    exact hk h f (Only.refl _ _)
  · have h0 : fs.asked [] = 0 := Zp.1 (ZT.1 h0)
    have:fs.space=VX fs.held.files fs.held.names fs.room:=by unfold Fs.space;rw [if_neg (by rw [h0];simp)]
    rw [this] at hk
    obtain ⟨w,e1,_⟩:=f.obj
    rw [QR,Qw,Q9 e1 rfl]
    refine Zg fun h7 o7 n7 g7=>?_
    have f7:=f.only o7 fun _ _=>id
    refine p35 f7 fit fun h8 mf mn t8 hmf hmn o8=>?_
    have o08:=o7.trans o8 fun _ _=>id
    refine Qp (Zy (Z1 (o08.at e1 rfl id)) (U0 _ _)) ?_
    rw [ZZ]
    refine De (o8.at g7 rfl id) rfl rfl rfl (by rw [o08.base];exact f.wf) fun h10 o10 n10 g10=>?_
    have o010:Only noL h h10:=o08.trans o10 fun i hi e=>by omega
    refine Qp (Zy (Z1 (o010.at e1 rfl id)) (U0 _ _)) ?_
    have t10:=t8.only o10 (fun e=>by omega) fun e=>by omega
    rw [Q1 g10 rfl]
    unfold smK
    simp only [t10.names]
    refine Qp ((Qk _ _).2 t10.bn) (Qp ((Qk _ _).2 (by simpa using hl)) ?_)
    rw [NK t10 g10]
    refine Zg fun h' o' n' g'=>?_
    have o:=o010.trans o' fun _ _=>id
    exact hk h' (f.only o fun _ _=>id) o
end Go.Proofs.YtfgdelkdmdmfgaaDoor
