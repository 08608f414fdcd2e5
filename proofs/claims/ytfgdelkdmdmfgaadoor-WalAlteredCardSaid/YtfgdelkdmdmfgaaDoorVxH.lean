import Derived.Test.YtfgdelkdmdmfgaaDoorVxF
namespace Go.Am
open Go
set_option linter.all false
noncomputable def Fs.pend (fs:Fs) (s:Stp):Int × Fs:=if fs.raw.1=0 then (0,{ fs.raw.2 with wait:=fs.wait++[s] }) else fs.raw
theorem Fs.raw_sure (fs:Fs):fs.raw.2.sure=fs.sure:=by unfold Fs.raw;split <;> rfl
theorem Fs.raw_wait (fs:Fs):fs.raw.2.wait=fs.wait:=by unfold Fs.raw;split <;> rfl
def Fs.file (fs:Fs) (s:List UInt8):Int × Int:=if fs.asked [s]≠0 then (0,fs.asked [s]) else match Zh fs.held.names s with
  | none=>(0,4)
  | some x=>(x,0)
theorem lgetO_map {α:Type} (f:α→AV) {l:List α} {i:Nat} (h:i < l.length):Q8 (l.map f) i=some (f l[i]):=by
  rw [DJ (by simpa using h)];simp
end Go.Am
namespace Go.Proofs.YtfgdelkdmdmfgaaDoor
open Go Go.Am
set_option linter.all false
set_option maxRecDepth 100000
theorem p34 {h : H} {g : FsG} {fs : Fs} {v : AV} {l : List (List UInt8)} {k : Int → H → Prop} (f : FsAt h g fs) (a : ArgS h v l) (hl : l.length < 4611686018427387904) (hk : k (fs.asked l) h) : s48 (.ptr g.id 0) v h k := by
  obtain ⟨w,e1,e2⟩:=f.obj
  show s48G J0 s33 _ _ h k
  unfold s48G nilB
  rw [show Nat.beq (ZQ (.ptr g.id 0)) 0=false from rfl,Qr,show Nat.beq (ZQ (.ptr g.id 0)) (Nat.succ 0)=true from rfl,Uf]
  simp only [Qq,Qr,QR,Qw]
  rw [Wv e1 rfl]
  simp only [Qm,Qg,Bool.not_true,QF,Qr]
  rw [Wv e1 rfl]
  refine QP (fun h0=>?_) fun h0=>?_
  · have : fs.asked l = 7 := by unfold Fs.asked; rw [if_pos h0]
    rw [this] at hk;exact hk
  · have e0 : fs.asked l = if l.all named then 0 else 2 := by unfold Fs.asked; rw [h0]; simp
    rw [e0] at hk
    have hlen:∀ K:Nat→Prop,ZH v K=K l.length:=by
      rcases a with ⟨rfl,rfl⟩ | ⟨id,cap,ex,rfl,_⟩ <;> intro K <;> rfl
    rw [hlen]
    refine W0 (fun m u d h'=>∃ i,m=l.length - i∧i≤l.length∧u=(v,.int .i64 (Int.ofNat l.length),.int .i64 (Int.ofNat i),())∧d=[]∧h'=h∧∀ j (hj:j < l.length),j < i→named l[j]=true) (fun m self u d hc inv next=>?_) (n:=l.length) hl ⟨0,rfl,Nat.zero_le _,rfl,rfl,rfl,fun j _ hj=>absurd hj (Nat.not_lt_zero _)⟩
    obtain ⟨i,rfl,hi,rfl,rfl,rfl,hj⟩:=inv
    dsimp only
    rw [Qa,Qa]
    refine QP (fun h2=>?_) fun h2=>?_
    · have h2 := ZI.1 h2
      rcases a with ⟨rfl,rfl⟩ | ⟨id,cap,ex,rfl,ge⟩
      · simp at h2
      · rw [ixK1 h2, YP ge (lgetO_map _ h2)]
        refine p46 ?_
        cases hn:named l[i] with
        | false =>
          rw [show l.all named=false from List.all_eq_false.2 ⟨l[i],List.getElem_mem h2,by rw [hn];simp⟩] at hk
          exact hk
        | true =>
          simp only [Bool.not_true,Qr]
          rw [Qa,KP (by omega),Qo]
          refine next (l.length - (i+1)) _ _ _ (by omega) ⟨i+1,rfl,h2,rfl,rfl,rfl,fun j hj1 hj2=>?_⟩
          by_cases e:j=i
          · subst e;exact hn
          · exact hj j hj1 (by omega)
    · have h2 := Vl.1 h2
      rw [show l.all named=true from List.all_eq_true.2 fun c hc=>by
        obtain ⟨j,hj1,rfl⟩:=List.mem_iff_getElem.1 hc
        exact hj j hj1 (by omega)] at hk
      exact hk
theorem p49 {h : H} {g : FsG} {fs : Fs} {k : Int → H → Prop} (f : FsAt h g fs) (hk : ∀ h', FsAt h' g fs.raw.2 → Only (· = g.id) h h' → h'.next = h.next → k fs.raw.1 h') : s65 (.ptr g.id 0) h k := by
  obtain ⟨w,e1,e2⟩:=f.obj
  have same:∀ u,h.get g.id=.cells false 56 (fs.cells g u)→u=w:=fun u e=>by
    rw [e1] at e;injection e with _ _ e;unfold Fs.cells at e;injection e with _ e;injection e with _ e;injection e with e _;exact e.symm
  show s65G J0 _ h k
  unfold s65G
  rw [QR,Qw,Wv e1 rfl]
  cases hf:fs.fused with
  | false =>
    simp only [Qq,Vp,Qr,QF,Qm,QR,Qw]
    rw [Wv e1 rfl,hf,Qr,Q9 e1 rfl,Qo]
    refine WE e1 rfl rfl f.bs fun h' o n g'=>?_
    have:fs.raw=(0,{ fs with steps:=Qd .i64 (Int.add fs.steps 1) }):=by unfold Fs.raw;rw [hf];rfl
    rw [this] at hk
    refine hk h' (f.put o rfl rfl fun u e=>?_) o n
    rw [same u e,g'];simp only [Fs.cells,hf];rfl
  | true =>
    simp only [Qq,Vp,QO,QS,Qm,QR,Qw]
    rw [Q9 e1 rfl,Qa,Qg]
    refine QP (fun h0=>?_) fun h0=>?_
    · have h0 : fs.left = 0 := Zp.1 h0
      refine WE e1 rfl rfl f.bs fun h' o n g'=>?_
      have:fs.raw=(7,{ fs with off:=true }):=by unfold Fs.raw;rw [hf,decide_eq_true h0];rfl
      rw [this] at hk
      refine hk h' (f.put o rfl rfl fun u e=>?_) o n
      rw [same u e,g'];rfl
    · have h0 : fs.left ≠ 0 := Q4.1 h0
      rw [Wv e1 rfl,hf,QO,Q9 e1 rfl,Qo]
      refine WE e1 rfl rfl f.bs fun h1 o1 n1 g1=>?_
      rw [Q9 g1 rfl,Qo]
      refine WE g1 rfl rfl (by rw [o1.base];exact f.bs) fun h' o n g'=>?_
      have:fs.raw=(0,{ fs with left:=Qd .i64 (Int.sub fs.left 1),steps:=Qd .i64 (Int.add fs.steps 1) }):=by
        unfold Fs.raw;rw [hf,decide_eq_false (by simpa using h0)];rfl
      rw [this] at hk
      have o2:=o1.trans o fun _ _=>id
      refine hk h' (f.put o2 rfl rfl fun u e=>?_) o2 (n.trans n1)
      rw [same u e,g'];simp only [Fs.cells,hf];rfl
theorem p36 {h:H} {g:FsG} {fs:Fs} {s:Stp} {u:AV} {k:Int→H→Prop} (f:FsAt h g fs) (hu:SlB h u s.bytes) (hl:(fs.wait.length+1) * 72≤Qe)
    (hk:∀ h' g',FsAt h' g' (fs.pend s).2→Nxt h g h' g'→k (fs.pend s).1 h'):s45 (.ptr g.id 0) (.agg (s.cells u)) h k:=by
  show s45G J0 s65 _ _ h k
  unfold s45G
  rw [ZZ]
  refine Zg fun h2 o2 n2 g2=>?_
  refine p49 (f.only o2 fun _ _=>id) fun h4 f4 o4 n4=>?_
  have o24:Only (Own g) h h4:=(o2.imp fun _ _ c=>c.elim).trans o4 fun _ _ c=>.inl c
  rw [Vp,Qg]
  refine QP (fun h0=>?_) fun h0=>?_
  · have h0 : fs.raw.1 = 0 := Zp.1 h0
    have ep:fs.pend s=(0,{ fs.raw.2 with wait:=fs.wait++[s] }):=by unfold Fs.pend;rw [if_pos h0]
    rw [ep] at hk
    obtain ⟨w,e1,e2⟩:=f4.obj
    rw [Fs.raw_wait] at e2
    have hid:h.next≠g.id:=fun e=>by have:=Own.live f (.inl rfl:Own g g.id);omega
    rw [QR,Qw,Q1 e1 rfl,YB (o4.at g2 rfl fun e=>hid e) (show _=some (s.cells u) from rfl)]
    refine Qp rfl ?_
    rw [show Q7 0 (s.cells u) [(.int .i64 0),(.str ⟨0,0⟩),(.str ⟨0,0⟩),(.int .i64 0),(.nils)]=some (s.cells u) from rfl,Qy]
    refine Zg fun h17 o17 n17 g17=>?_
    have f17:=f4.only o17 fun _ _=>id
    refine Qb3 (e2.only o17 fun _ _=>id) g17 ((hu.only o24).only o17) hl f17.wf fun v' h20 i w10 o20 hi=>?_
    have a:=f17.apart
    have e20:=o20.at (o17.at e1 rfl id) rfl fun c=>a.2.2 c
    rw [QR,Qw]
    refine WE e20 w10.one rfl (by rw [o20.base];exact f17.bs) fun h22 o22 n22 g22=>?_
    have o422:Only (Own g) h4 h22:=((o17.imp fun _ _ c=>c.elim).trans o20 fun _ _ c=>.inr (.inr (.inr c))).trans o22 fun _ _ c=>.inl c
    have li:h4.next≤i:=Nat.le_trans o17.next hi
    show k fs.raw.1 h22
    rw [h0]
    refine hk h22 ⟨g.id,g.mf,g.mn,some i⟩ ⟨by rw [o422.base];exact f4.bs,⟨v',?_,?_⟩,?_⟩ ⟨rfl,o24.trans o422 fun _ _=>id,fun j c=>?_⟩
    · rw [g22];rfl
    · refine w10.only o22 fun j e c => ?_
      injection e with e
      have:=Own.live f4 (.inl rfl:Own g g.id);omega
    · rw [show ({ fs.raw.2 with wait := fs.wait ++ [s] } : Fs).sure = fs.raw.2.sure from rfl]
      refine ((f17.tree.only o20 (fun c=>?_) fun c=>?_).only o22 (fun c=>a.1 c.symm) fun c=>a.2.1 c.symm)
      · exact (f17.apart' c).1 rfl
      · exact (f17.apart' c).2 rfl
    · have hn := o24.next
      rcases c with c | c | c | c
      · exact .inl (.inl c)
      · exact .inl (.inr (.inl c))
      · exact .inl (.inr (.inr (.inl c)))
      · injection c with c;right;omega
  · have h0 : fs.raw.1 ≠ 0 := Q4.1 h0
    have ep:fs.pend s=fs.raw:=by unfold Fs.pend;rw [if_neg h0]
    rw [ep] at hk
    show k fs.raw.1 h4
    exact hk h4 g f4 ⟨rfl,o24,fun _=>.inl⟩
theorem p39 {h:H} {g:FsG} {fs:Fs} {s:List UInt8} {k:Int→Int→H→Prop} (f:FsAt h g fs) (fit:fs.Fits Qe) (hk:∀ h',FsAt h' g fs→Only noL h h'→k (fs.file s).1 (fs.file s).2 h'):s29 (.ptr g.id 0) (Str.of s) h k:=by
  show s29G J0 s31 s48 _ _ h k
  unfold s29G
  refine Zg fun h2 o2 n2 g2=>?_
  have f2:=f.only o2 fun _ _=>id
  refine p34 (l:=[s]) f2 (.inr ⟨h.next,1,true,rfl,g2⟩) (by show 1 < 4611686018427387904;omega) ?_
  rw [Qg]
  refine QP (fun h0=>?_) fun h0=>?_
  · have h0 : fs.asked [s] ≠ 0 := Q4.1 (Am.not_true.1 h0)
    have:fs.file s=(0,fs.asked [s]):=by unfold Fs.file;rw [if_pos h0]
    rw [this] at hk
    exact hk h2 f2 o2
  · have h0 : fs.asked [s] = 0 := Zp.1 (ZT.1 h0)
    have:fs.file s=match Zh fs.held.names s with | none=>(0,4) | some x=>(x,0):=by unfold Fs.file;rw [if_neg (by rw [h0];simp)]
    rw [this] at hk
    refine p35 f2 fit fun h6 mf mn t6 hmf hmn o6=>?_
    rw [ZZ]
    show op' (some (AV.map mn)) _
    have o26:=o2.trans o6 fun _ _=>id
    rw [Qy,Qcm vt t6,Qy,Yi]
    show op' (some (AV.int .i64 (UL fs.held.names s))) _
    rw [Qy,Qa,Yi]
    show op' (some (AV.bool (Zh fs.held.names s).isSome)) _
    rw [Qy,Qm,Qg]
    have:=hk h6 (f.only o26 fun _ _=>id) o26
    unfold UL
    cases hg:Zh fs.held.names s with
    | none=>rw [hg] at this;exact this
    | some x=>rw [hg] at this;exact this
end Go.Proofs.YtfgdelkdmdmfgaaDoor
namespace Go.Am
open Go
set_option linter.all false
noncomputable def Fs.settle (fs:Fs) (p:Stp→Bool):Int × Fs :=
  if fs.raw.1=0 then (0,{ fs.raw.2 with sure:=fs.sure.steps (fs.wait.filter p),wait:=fs.wait.filter fun s=>!p s }) else fs.raw
theorem VH {p:Stp→Bool} {l:List Stp} {i:Nat} (h:i < l.length):(l.take (i+1)).filter p=(l.take i).filter p++(if p l[i] then [l[i]] else []):=by
  rw [List.take_succ_eq_append_getElem h,List.filter_append]
  congr 1
  simp only [List.filter_cons,List.filter_nil]
theorem X9 (p:Stp→Bool):∀ l:List Stp,Wp (l.filter p)≤Wp l
  | []=>Nat.le_refl _
  | s :: l => by
    have:=X9 p l
    rw [List.filter_cons]
    split
    · rw [Yr,Yr];omega
    · rw [Yr];omega
end Go.Am
namespace Go.Proofs.YtfgdelkdmdmfgaaDoor
open Go Go.Am
set_option linter.all false
set_option maxRecDepth 100000
structure R37 (h1:H) (g:FsG) (fs:Fs) (p:Stp→Bool) (w mean:AV) (m:Nat) (v:AV × AV × AV × AV × AV × AV × Unit) (d:List Dfr) (h:H) (i:Nat) (r:AV) (wr:Option Nat):Prop where
  m:m=fs.wait.length - i
  le:i≤fs.wait.length
  v:v=(.ptr g.id 0,mean,r,w,.int .i64 (Int.ofNat fs.wait.length),.int .i64 (Int.ofNat i),())
  d:d=[]
  o:Only (Two g.mf g.mn) h1 h
  t:TreeAt h g.mf g.mn (fs.sure.steps ((fs.wait.take i).filter p))
  wt:WaitAt h wr r ((fs.wait.take i).filter fun s=>!p s)
  far:∀ j,wr=some j→h1.next≤j
def Qfo (G:Gam) (mean:AV) (p:Stp→Bool) (g:FsG) (h:H):Prop :=
  ∀ (s:Stp) (u:AV) (hc:H) (K:AV→H→Prop),Only (Own g) h hc→SlB hc u s.bytes→(∀ h',Only noL hc h'→K (.bool (p s)) h')→K8 G mean [.agg (s.cells u)] hc K
theorem p37 {h : H} {g : FsG} {fs : Fs} {p : Stp → Bool} {mean : AV} {k : Int → H → Prop} (f : FsAt h g fs) (fit : fs.Fits Qe) (hm : Qfo (gam J0 [(47, w47 s47), (51, w51 s51), (55, w55 s55), (65, w65 s65)]) mean p g h)
    (hk:∀ h' g',FsAt h' g' (fs.settle p).2→Nxt h g h' g'→k (fs.settle p).1 h'):s46 (.ptr g.id 0) mean h k:=by
  obtain ⟨n,hbn,hfit⟩:=fit
  have hlen:fs.wait.length * 72≤Qe:=by have:=Km fs.wait;omega
  have hmost:Qe=140737488355328:=rfl
  show s46G J0 s47 s51 s55 s65 _ _ h k
  unfold s46G
  refine p49 f fun h1 f1 o1 n1=>?_
  rw [Qg]
  refine QP (fun h0=>?_) fun h0=>?_
  · have h0 : fs.raw.1 ≠ 0 := Q4.1 (Am.not_true.1 h0)
    have:fs.settle p=fs.raw:=by unfold Fs.settle;rw [if_neg h0]
    rw [this] at hk
    exact hk h1 g f1 ⟨rfl,o1.imp fun _ _ c=>.inl c,fun _=>.inl⟩
  · have h0 : fs.raw.1 = 0 := Zp.1 (ZT.1 h0)
    have ep:fs.settle p=(0,{ fs.raw.2 with sure:=fs.sure.steps (fs.wait.filter p),wait:=fs.wait.filter fun s=>!p s }):=by unfold Fs.settle;rw [if_pos h0]
    rw [ep] at hk
    obtain ⟨w,e1,e2⟩:=f1.obj
    have q1:=f1.tree
    rw [Fs.raw_wait] at e2
    rw [Fs.raw_sure] at q1
    have a:=f1.apart
    have la:Own g g.id:=.inl rfl
    have lid:=Own.live f1 la
    have oh1:Only (Own g) h h1:=o1.imp fun _ _ c=>.inl c
    have two:∀ j,Two g.mf g.mn j→Own g j:=by rintro j (c | c);exact .inr (.inl c);exact .inr (.inr (.inl c))
    have tid:¬ Two g.mf g.mn g.id:=by rintro (c | c);exact a.1 c;exact a.2.1 c
    have twr:∀ j,g.wr=some j→¬ Two g.mf g.mn j:=by rintro j e (c | c);exact (f1.apart' e).1 c;exact (f1.apart' e).2 c
    rw [QR,Qw,Q1 e1 rfl]
    show ZH w _
    rw [e2.len]
    refine W0 (fun m v d h'=>∃ i r wr,R37 h1 g fs p w mean m v d h' i r wr) (fun m self v d hc inv next=>?_) (n:=fs.wait.length) (by show _ < 4611686018427387904;omega) ⟨0,.nils,none,rfl,Nat.zero_le _,rfl,rfl,Only.refl _ _,q1,.inl ⟨rfl,rfl,rfl⟩,fun j c=>by cases c⟩
    obtain ⟨i,r,wr,hm',hle,rfl,rfl,ho,ht,hw,hfar⟩:=inv
    have hwf:hc.base≤hc.next:=ht.wf
    have hnx:=ho.next
    dsimp only
    rw [Qa,Qa,Qg]
    refine QP (fun h2=>?_) fun h2=>?_
    · have hi := ZI.1 h2
      rw [Vp]
      refine WaitAt.read (e2.only ho twr) hi fun pp u hu=>?_
      refine Zg fun h23 o23 n23 g23=>?_
      refine De g23 rfl (Stp.ones _ hu.one) rfl (by rw [o23.base];exact hwf) fun h24 o24 n24 g24=>?_
      have oc24:Only noL hc h24:=o23.trans o24 fun j hj e=>by omega
      rw [YB g24 (show _=some (fs.wait[i].cells u) from rfl)]
      have oh24:Only (Own g) h h24:=(oh1.trans ho fun j _ c=>two j c).trans oc24 fun _ _ c=>c.elim
      refine hm fs.wait[i] u h24 _ oh24 (hu.only oc24) fun h27 o27=>?_
      have oc27:Only noL hc h27:=oc24.trans o27 fun _ _ c=>c
      have g27:=o27.at g24 rfl id
      have u27:=hu.only oc27
      have t27:=ht.only oc27 id id
      have w43:=hw.only oc27 fun _ _ c=>c
      rw [Qm]
      have hwi:=N9 hi
      cases hp:p fs.wait[i] with
      | true =>
        have e1':=((ho.at e1 rfl tid:hc.get g.id=_))
        have e27:=oc27.at e1' rfl id
        rw [QO,QR,Qw]
        rw [YB e27 (show _=some [.map g.mf,.map g.mn] from rfl),YB g27 (show _=some (fs.wait[i].cells u) from rfl)]
        have hb2:=hbn.steps (t:=fs.sure) (l:=(fs.wait.take i).filter p)
        have:=X9 p (fs.wait.take i)
        refine p43 t27 u27 hb2 (by omega) fun h32 t32 o32=>?_
        have oc32:Only (Two g.mf g.mn) hc h32:=(oc27.imp fun _ _ c=>c.elim).trans o32 fun _ _ c=>c
        dsimp only
        rw [Qa,KP (by omega),Qo]
        have lf:=q1.lf
        have ln:=q1.ln
        refine next (fs.wait.length - (i+1)) _ _ _ (by omega) ⟨i+1,r,wr,rfl,hi,rfl,rfl,ho.trans oc32 fun _ _ c=>c,?_,?_,hfar⟩
        · rw [VH hi,hp,if_pos rfl,G0];exact t32
        · rw [VH hi, hp, if_neg (by simp), List.append_nil]
          refine w43.only o32 fun j e c=>?_
          have:=hfar j e
          rcases c with c | c <;> omega
      | false =>
        rw [Qr,YB g27 (show _=some (fs.wait[i].cells u) from rfl)]
        refine Qp rfl ?_
        rw [show Q7 0 (fs.wait[i].cells u) [(.int .i64 0),(.str ⟨0,0⟩),(.str ⟨0,0⟩),(.int .i64 0),(.nils)]=some (fs.wait[i].cells u) from rfl,Qy]
        refine Zg fun h35 o35 n35 g35=>?_
        have oc35:Only noL hc h35:=oc27.trans o35 fun _ _ c=>c
        have hll:=List.length_filter_le (fun s=>!p s) (fs.wait.take i)
        rw [List.length_take] at hll
        refine Qb3 (hw.only oc35 fun _ _ c=>c) g35 (u27.only o35) (by omega) (by rw [oc35.base];have:=oc35.next;omega) fun v' h38 j w55 o38 hj=>?_
        have oc38:Only (fun i=>wr=some i) hc h38:=(oc35.imp fun _ _ c=>c.elim).trans o38 fun _ _ c=>c
        have hn35:=oc35.next
        dsimp only
        rw [Qa,KP (by omega),Qo]
        have lf:=q1.lf
        have ln:=q1.ln
        refine next (fs.wait.length - (i+1)) _ _ _ (by omega) ⟨i+1,v',some j,rfl,hi,rfl,rfl,ho.trans oc38 fun l hl c=>?_,?_,?_,fun l e=>?_⟩
        · have:=hfar l c;omega
        · rw [VH hi, hp, if_neg (by simp), List.append_nil]
          refine ht.only oc38 (fun c=>?_) fun c=>?_
          · have:=hfar _ c;omega
          · have:=hfar _ c;omega
        · rw [VH hi,hp,if_pos (by simp)];exact w55
        · injection e with e;omega
    · have hi := Vl.1 h2
      have:i=fs.wait.length:=by omega
      subst this
      rw [List.take_length] at ht hw
      have e1':=((ho.at e1 rfl tid:hc.get g.id=_))
      rw [QR,Qw]
      refine WE e1' hw.one rfl (by rw [ho.base];exact f1.bs) fun h40 o40 n40 g40=>?_
      show k 0 h40
      refine hk h40 ⟨g.id,g.mf,g.mn,wr⟩ ⟨by rw [o40.base,ho.base];exact f1.bs,⟨r,?_,?_⟩,?_⟩ ⟨rfl,(oh1.trans ho fun j _ c=>two j c).trans o40 fun _ _ c=>.inl c,fun j c=>?_⟩
      · rw [g40];rfl
      · refine hw.only o40 fun j e c => ?_
        have:=hfar j e;omega
      · exact ht.only o40 (fun c=>a.1 c.symm) fun c=>a.2.1 c.symm
      · rcases c with c | c | c | c
        · exact .inl (.inl c)
        · exact .inl (.inr (.inl c))
        · exact .inl (.inr (.inr (.inl c)))
        · right;have:=hfar j c;have:=oh1.next;omega
end Go.Proofs.YtfgdelkdmdmfgaaDoor
