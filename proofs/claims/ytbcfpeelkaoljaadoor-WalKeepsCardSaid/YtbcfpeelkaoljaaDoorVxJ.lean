import Derived.Test.YtbcfpeelkaoljaaDoorAmS3
import Derived.Test.YtbcfpeelkaoljaaDoorVxH
noncomputable section
namespace Go.Am
open Go
set_option linter.all false
theorem QaN (a b:Int):eqI a b=decide (a=b):=by rw [WW];rfl
def VZ:Stp→Bool:=fun s=>!decide (s.kind=0)
def WZ (n:Int):Stp→Bool:=fun s=>decide (s.kind=0) && decide (s.file=n)
def Fs.create (fs:Fs) (s:List UInt8):Int × Fs :=
  if fs.asked [s]≠0 then (fs.asked [s],fs) else if (Zl fs.held.names s).isSome then (9,fs)
  else ((fs.pend ⟨1,s,[],fs.next,[]⟩).1,{ (fs.pend ⟨1,s,[],fs.next,[]⟩).2 with next:=Qc .i64 (Int.add (fs.pend ⟨1,s,[],fs.next,[]⟩).2.next 1) })
def Fs.sync (fs:Fs) (s:List UInt8):Int × Fs:=if (fs.file s).2≠0 then ((fs.file s).2,fs) else fs.settle (WZ (fs.file s).1)
def Fs.syncNames (fs:Fs):Int × Fs:=if fs.asked []≠0 then (fs.asked [],fs) else fs.settle VZ
def Fs.read (fs:Fs) (a:List UInt8):List UInt8 × Int:=if (fs.file a).2≠0 then ([],(fs.file a).2) else (QS fs.held.files (fs.file a).1,0)
def Fs.fuse (fs:Fs) (n:Int):Int × Fs:=if fs.asked []≠0 then (fs.asked [],fs) else if n < 0 then (2,fs) else (0,{ fs with fused:=true,left:=n })
end Go.Am
namespace Go.Proofs.YtbcfpeelkaoljaaDoor
open Go Go.Am
set_option linter.all false
set_option maxRecDepth 100000
theorem meant38 (g:FsG) (h:H):QfG (gam J0 [(30,w30 s30),(50,w50 s50),(55,w55 s55),(65,w65 s65)]) (.func (.func 55) [] []) VZ g h:=by
  intro s u hc K o hu hK
  show s55G J0 (.agg (s.cells u)) hc fun b h=>K (.bool b) h
  unfold s55G
  rw [ZS]
  refine Q8 fun h2 o2 n2 g2=>?_
  rw [Q1 g2 rfl,Qi,WW]
  exact hK h2 o2
theorem meant40 {g:FsG} {h:H} {j:Nat} {n:Int} (e:h.get j=.cells false 3 [.int .i64 n]) (hj:¬ Own g j):QfG (gam J0 [(30,w30 s30),(50,w50 s50),(55,w55 s55),(65,w65 s65)]) (.func (.func 50) [] [.ptr j 0]) (WZ n) g h:=by
  intro s u hc K o hu hK
  show s50G J0 (.agg (s.cells u)) (.ptr j 0) hc fun b h=>K (.bool b) h
  unfold s50G
  rw [ZS]
  refine Q8 fun h2 o2 n2 g2=>?_
  have e2:=o2.at (o.at e rfl hj) rfl id
  have:=hK h2 o2
  unfold WZ at this
  rw [Q1 g2 rfl,Qi,QaN]
  by_cases h0:s.kind=0
  · rw [decide_eq_true h0] at this
    rw [show decide (s.kind=Int.ofNat 0)=true from decide_eq_true h0]
    simp only [Qs,QU]
    rw [Q1 g2 rfl,Q1 e2 rfl,Qd,Qd,Qi,QQ,Ql,QaN]
    exact this
  · rw [decide_eq_false h0] at this
    rw [show decide (s.kind=Int.ofNat 0)=false from decide_eq_false h0]
    simp only [Qs,Qq]
    exact this
theorem p12 {h:H} {g:FsG} {fs:Fs} {k:Int→H→Prop} (f:FsAt h g fs) (fit:fs.Fits Qe) (hk:∀ h' g',FsAt h' g' fs.syncNames.2→Nxt h g h' g'→k fs.syncNames.1 h'):s36 (.ptr g.id 0) h k:=by
  show s36G J0 s21 s49 s55 _ h k
  unfold s36G
  refine p34 (l:=[]) f (.inl ⟨rfl,rfl⟩) (by show 0 < 4611686018427387904;omega) ?_
  rw [Qi]
  refine QD (fun h0=>?_) fun h0=>?_
  · have h0 : fs.asked [] ≠ 0 := Zb.1 (Am.not_true.1 h0)
    have:fs.syncNames=(fs.asked [],fs):=by unfold Fs.syncNames;rw [if_pos h0]
    rw [this] at hk
    exact hk h g f (Nxt.refl _ _)
  · have h0 : fs.asked [] = 0 := Zj.1 (ZI.1 h0)
    have:fs.syncNames=fs.settle VZ:=by unfold Fs.syncNames;rw [if_neg (by rw [h0];simp)]
    rw [this] at hk
    exact p37 f fit (meant38 g h) hk
theorem p14 {h:H} {g:FsG} {fs:Fs} {s:List UInt8} {k:Int→H→Prop} (f:FsAt h g fs) (fit:fs.Fits Qe) (hk:∀ h' g',FsAt h' g' (fs.sync s).2→Nxt h g h' g'→k (fs.sync s).1 h'):s29 (.ptr g.id 0) (Str.of s) h k:=by
  show s29G J0 s44 s49 s50 _ _ h k
  unfold s29G
  refine p39 f fit fun h1 f1 o1=>?_
  refine Q8 fun h5 o5 n5 g5=>?_
  refine Yr g5 rfl rfl (by rw [o5.base];exact f1.wf) fun h6 o6 n6 g6=>?_
  have o16:Only noL h1 h6:=o5.trans o6 fun j hj e=>by omega
  have f6:=f1.only o16 fun _ _=>id
  have o06:=o1.trans o16 fun _ _=>id
  rw [Qi]
  refine QD (fun h0=>?_) fun h0=>?_
  · have h0 : (fs.file s).2 ≠ 0 := Zb.1 (Am.not_true.1 h0)
    have:fs.sync s=((fs.file s).2,fs):=by unfold Fs.sync;rw [if_pos h0]
    rw [this] at hk
    exact hk h6 g f6 (Nxt.pure g o06)
  · have h0 : (fs.file s).2 = 0 := Zj.1 (ZI.1 h0)
    have:fs.sync s=fs.settle (WZ (fs.file s).1):=by unfold Fs.sync;rw [if_neg (by rw [h0];simp)]
    rw [this] at hk
    have hj:¬ Own g h1.next:=fun c=>by have:=Own.live f1 c;omega
    exact p37 f6 fit (meant40 g6 hj) fun h' g' f' nx=>hk h' g' f' ((Nxt.pure g o06).trans nx)
theorem p11 {h : H} {g : FsG} {fs : Fs} {s : List UInt8} {k : Int → H → Prop} (f : FsAt h g fs) (fit : fs.Fits Qe) (hl : (fs.wait.length + 1) * 72 ≤ Qe) (hk : ∀ h' g', FsAt h' g' (fs.create s).2 → Nxt h g h' g' → k (fs.create s).1 h') : s35 (.ptr g.id 0) (Str.of s) h k := by
  show s35G J0 s21 s47 s51 _ _ h k
  unfold s35G
  refine Q8 fun h2 o2 n2 g2=>?_
  have f2:=f.only o2 fun _ _=>id
  refine p34 (l:=[s]) f2 (.inr ⟨h.next,1,true,rfl,g2⟩) (by show 1 < 4611686018427387904;omega) ?_
  rw [Qi]
  refine QD (fun h0=>?_) fun h0=>?_
  · have h0 : fs.asked [s] ≠ 0 := Zb.1 (Am.not_true.1 h0)
    have:fs.create s=(fs.asked [s],fs):=by unfold Fs.create;rw [if_pos h0]
    rw [this] at hk
    exact hk h2 g f2 (Nxt.pure g o2)
  · have h0 : fs.asked [s] = 0 := Zj.1 (ZI.1 h0)
    refine p35 f2 fit fun h6 mf mn t6 hmf hmn o6=>?_
    have o26:=o2.trans o6 fun _ _=>id
    have f6:=f.only o26 fun _ _=>id
    rw [ZS]
    show op' (some (AV.map mn)) _
    rw [QB,QeP vt t6,QB,Wb]
    show op' (some (AV.int .i64 (KU fs.held.names s))) _
    rw [QB,Qd,Wb]
    show op' (some (AV.bool (Zl fs.held.names s).isSome)) _
    rw [QB,Ql]
    refine QD (fun h1=>?_) fun h1=>?_
    · have : fs.create s = (9, fs) := by unfold Fs.create; rw [if_neg (by rw [h0]; simp), if_pos h1]
      rw [this] at hk
      exact hk h6 g f6 (Nxt.pure g o26)
    · have : fs.create s = ((fs.pend ⟨1, s, [], fs.next, []⟩).1, { (fs.pend ⟨1, s, [], fs.next, []⟩).2 with next := Qc .i64 (Int.add (fs.pend ⟨1, s, [], fs.next, []⟩).2.next 1) }) := by
        unfold Fs.create;rw [if_neg (by rw [h0];simp),if_neg (by rw [h1];simp)]
      rw [this] at hk
      obtain ⟨w,e1,_⟩:=f6.obj
      rw [QJ,Qt,Q1 e1 rfl]
      refine p36 (s:=⟨1,s,[],fs.next,[]⟩) (u:=.nils) f6 (SlB.nil _) hl fun h19 g19 f19 nx=>?_
      have hg:=nx.id
      obtain ⟨w',e19,_⟩:=f19.obj
      rw [hg] at e19
      rw [QJ,Qt,Q1 e19 rfl,Qx,QJ,Qt]
      refine Yr e19 rfl rfl (by rw [← hg];exact f19.bs) fun h25 o25 n25 g25=>?_
      have o25':Only (· = g19.id) h19 h25:=o25.imp fun _ _ c=>by rw [hg];exact c
      have e19':h19.get g19.id=.cells false 55 ((fs.pend ⟨1,s,[],fs.next,[]⟩).2.cells g19 w'):=by rw [hg];exact e19
      refine hk h25 g19 (f19.put o25' rfl rfl fun u e=>?_) (((Nxt.pure g o26).trans nx).trans ⟨rfl,o25'.imp fun _ _ c=>.inl c,fun _=>.inl⟩)
      have:u=w':=by rw [e19'] at e;injection e with _ _ e;unfold Fs.cells at e;injection e with _ e;injection e with _ e;injection e with e _;exact e.symm
      rw [this,hg,g25];rfl
theorem p20 {h:H} {g:FsG} {fs:Fs} {a:List UInt8} {k:AV→Int→H→Prop} (f:FsAt h g fs) (fit:fs.Fits Qe) (hk:∀ v h',FsAt h' g fs→Only noL h h'→SlB h' v (fs.read a).1→k v (fs.read a).2 h'):s32 (.ptr g.id 0) (Str.of a) h k:=by
  show s32G J0 s44 s48 s51 _ _ h k
  unfold s32G
  refine p39 f fit fun h1 f1 o1=>?_
  rw [Qi]
  refine QD (fun h0=>?_) fun h0=>?_
  · have h0 : (fs.file a).2 ≠ 0 := Zb.1 (Am.not_true.1 h0)
    have:fs.read a=([],(fs.file a).2):=by unfold Fs.read;rw [if_pos h0]
    rw [this] at hk
    exact hk _ h1 f1 o1 (SlB.nil _)
  · have h0 : (fs.file a).2 = 0 := Zj.1 (ZI.1 h0)
    have:fs.read a=(QS fs.held.files (fs.file a).1,0):=by unfold Fs.read;rw [if_neg (by rw [h0];simp)]
    rw [this] at hk
    refine p35 f1 fit fun h6 mf mn t6 hmf hmn o6=>?_
    rw [ZS]
    show op' (some (AV.map mf)) _
    obtain ⟨v,e1,hv⟩:=Qdv vt t6 (fs.file a).1
    rw [QB,e1,QB]
    have o16:=o1.trans o6 fun _ _=>id
    obtain ⟨n,hbn,hfit⟩:=fit
    refine p42 hv t6.wf (by have:=(hbn.steps (t:=fs.sure) (l:=fs.wait)).get (fs.file a).1;exact Nat.le_trans this hfit) fun v' h' r o'=>?_
    have o:=o16.trans o' fun _ _=>id
    exact hk v' h' (f.only o fun _ _=>id) o (SlB.ofRow r)
theorem p13 {h:H} {g:FsG} {fs:Fs} {n:Int} {k:Int→H→Prop} (f:FsAt h g fs) (hk:∀ h' g',FsAt h' g' (fs.fuse n).2→Nxt h g h' g'→k (fs.fuse n).1 h'):s8 (.ptr g.id 0) n h k:=by
  show s8G J0 s21 _ _ h k
  unfold s8G
  refine p34 (l:=[]) f (.inl ⟨rfl,rfl⟩) (by show 0 < 4611686018427387904;omega) ?_
  rw [Qi]
  refine QD (fun h0=>?_) fun h0=>?_
  · have h0 : fs.asked [] ≠ 0 := Zb.1 (Am.not_true.1 h0)
    have:fs.fuse n=(fs.asked [],fs):=by unfold Fs.fuse;rw [if_pos h0]
    rw [this] at hk
    exact hk h g f (Nxt.refl _ _)
  · have h0 : fs.asked [] = 0 := Zj.1 (ZI.1 h0)
    rw [Qi]
    refine QD (fun h1=>?_) fun h1=>?_
    · have h1 : n < 0 := Yj.1 h1
      have:fs.fuse n=(2,fs):=by unfold Fs.fuse;rw [if_neg (by rw [h0];simp),if_pos h1]
      rw [this] at hk
      exact hk h g f (Nxt.refl _ _)
    · have h1 : 0 ≤ n := ZJ.1 h1
      have:fs.fuse n=(0,{ fs with fused:=true,left:=n }):=by unfold Fs.fuse;rw [if_neg (by rw [h0];simp),if_neg (by omega)]
      rw [this] at hk
      obtain ⟨w,e1,_⟩:=f.obj
      rw [QJ,Qt]
      refine Yr e1 rfl rfl f.bs fun h6 o6 n6 g6=>?_
      rw [QJ,Qt]
      refine Yr g6 rfl rfl (by rw [o6.base];exact f.bs) fun h8 o8 n8 g8=>?_
      have o:=o6.trans o8 fun _ _=>id
      refine hk h8 g (f.put o rfl rfl fun u e=>?_) ⟨rfl,o.imp fun _ _ c=>.inl c,fun _=>.inl⟩
      have:u=w:=by rw [e1] at e;injection e with _ _ e;unfold Fs.cells at e;injection e with _ e;injection e with _ e;injection e with e _;exact e.symm
      rw [this,g8];rfl
end Go.Proofs.YtbcfpeelkaoljaaDoor
namespace Go.Am
open Go
set_option linter.all false
def KG (fl:List (Int × List UInt8)):List (List UInt8 × Int)→Int→Int
  | [],n=>n
  | p::l,n=>KG fl l (Qc .i64 (Int.sub n (Int.ofNat (QS fl p.2).length)))
def Fs.space (fs:Fs):Int:=if fs.asked []≠0 then 0 else KG fs.held.files fs.held.names fs.room
end Go.Am
namespace Go.Proofs.YtbcfpeelkaoljaaDoor
open Go Go.Am
set_option linter.all false
set_option maxRecDepth 100000
theorem lenOf_at {h:H} {j mf mn:Nat} {t:Tre} (q:TreeAt h mf mn t) (e:h.get j=.cells false 52 [.map mf,.map mn]) (x:Int) (k:Nat→Prop):lenOf (.ptr j 0) h (.int .i64 x) k=k (QS t.files x).length:=by
  unfold lenOf faP ldP
  rw [Qd,Gc,QX]
  dsimp only
  rw [Gc,e,YG]
  show op' (some (AV.map mf)) _=_
  obtain ⟨v,e1,hv⟩:=Qdv vt q x
  rw [QB,e1,QB,hv.len]
theorem NH {h:H} {j mf mn:Nat} {t:Tre} (q:TreeAt h mf mn t) (e:h.get j=.cells false 52 [.map mf,.map mn]):∀ (l:List (List UInt8 × Int)) (n:Int) (k:Int→Prop),JK (.ptr j 0) h (l.map We) n k=k (KG t.files l n)
  | [],n,k=>rfl
  | p :: l, n, k => by
    show lenOf (.ptr j 0) h (.int .i64 p.2) (fun x=>fI _ fun n'=>JK (.ptr j 0) h (l.map We) n' k)=_
    rw [lenOf_at q e,Qx,NH q e l]
    rfl
theorem p27 {h:H} {g:FsG} {fs:Fs} {k:Int→H→Prop} (f:FsAt h g fs) (fit:fs.Fits Qe) (hl:fs.held.names.length≤1000000) (hk:∀ h',FsAt h' g fs→Only noL h h'→k fs.space h'):N4 (.ptr g.id 0) h k:=by
  unfold N4
  refine p34 (l:=[]) f (.inl ⟨rfl,rfl⟩) (by show 0 < 4611686018427387904;omega) ?_
  rw [Qi]
  refine QD (fun h0=>?_) fun h0=>?_
  · have h0 : fs.asked [] ≠ 0 := Zb.1 (Am.not_true.1 h0)
    have:fs.space=0:=by unfold Fs.space;rw [if_pos h0]
    rw [this] at hk
    exact hk h f (Only.refl _ _)
  · have h0 : fs.asked [] = 0 := Zj.1 (ZI.1 h0)
    have:fs.space=KG fs.held.files fs.held.names fs.room:=by unfold Fs.space;rw [if_neg (by rw [h0];simp)]
    rw [this] at hk
    obtain ⟨w,e1,_⟩:=f.obj
    rw [QJ,Qt,Q1 e1 rfl]
    refine Q8 fun h7 o7 n7 g7=>?_
    have f7:=f.only o7 fun _ _=>id
    refine p35 f7 fit fun h8 mf mn t8 hmf hmn o8=>?_
    have o08:=o7.trans o8 fun _ _=>id
    refine Qm (ZG (Z2 (o08.at e1 rfl id)) (U3 _ _)) ?_
    rw [ZS]
    refine KH (o8.at g7 rfl id) rfl rfl rfl (by rw [o08.base];exact f.wf) fun h10 o10 n10 g10=>?_
    have o010:Only noL h h10:=o08.trans o10 fun i hi e=>by omega
    refine Qm (ZG (Z2 (o010.at e1 rfl id)) (U3 _ _)) ?_
    have t10:=t8.only o10 (fun e=>by omega) fun e=>by omega
    rw [QZ g10 rfl]
    unfold smK
    simp only [t10.names]
    refine Qm ((Qh _ _).2 t10.bn) (Qm ((Qh _ _).2 (by simpa using hl)) ?_)
    rw [NH t10 g10]
    refine Q8 fun h' o' n' g'=>?_
    have o:=o010.trans o' fun _ _=>id
    exact hk h' (f.only o fun _ _=>id) o
end Go.Proofs.YtbcfpeelkaoljaaDoor
