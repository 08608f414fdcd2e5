import Derived.Test.YtfgdelkdmdmfgaaDoorKpF
noncomputable section
namespace Go.Proofs.YtfgdelkdmdmfgaaDoor
open Go Go.Am
set_option linter.all false
set_option maxRecDepth 100000
theorem NxtX.pure {X:Nat→Prop} {h h':H} (g:FsG) (o:Only noL h h'):NxtX X h g h' g:=NxtX.put g o fun _ c=>c.elim
structure WalAt (h:H) (W:Nat) (g:FsG) (seq sg:Nat) (br:Bool):Prop where
  at_:h.get W=.cells false 64 [.ptr g.id 0,.int .i64 (Int.ofNat seq),.int .i64 (Int.ofNat sg),.bool br,.bool true]
  bs:h.base≤W
  not:¬ Own g W
abbrev isW (W:Nat):Nat→Prop:=fun i=>i=W
theorem WalAt.nxt {h h':H} {W:Nat} {g g':FsG} {seq sg:Nat} {br:Bool} (w:WalAt h W g seq sg br) (n:Nxt h g h' g'):WalAt h' W g' seq sg br:=by
  have hlt:W < h.next:=H.lt_of_live (by rw [w.at_];rfl)
  refine ⟨by rw [n.id,n.o.get W hlt w.not];exact w.at_,by rw [n.o.base];exact w.bs,fun o=>?_⟩
  rcases n.own W o with c | c
  · exact w.not c
  · omega
theorem FsAt.putW {h h':H} {W:Nat} {g:FsG} {fs:Fs} (f:FsAt h g fs) (hw:¬ Own g W) (o:Only (isW W) h h'):FsAt h' g fs:=f.only o fun i hi e=>hw (e ▸ hi)
section
variable {KI:Int→H→Prop} {KB:Bool→H→Prop} {KA:AV→Int→H→Prop} {KV:AV→H→Prop}
theorem t27s {h:H} {W:Nat} {g:FsG} {seq sg:Nat} {br:Bool} {e:Int} (w:WalAt h W g seq sg br) (hk:∀ h',WalAt h' W g seq sg (br || eqI e (Int.ofNat 7))→Only (isW W) h h'→KI e h'):Qbe J0 (.ptr W 0) e h KI:=by
  unfold Qbe
  have L1:∀ k,ldB (.ptr W (Nat.add 0 3)) h k=k br:=fun k=>Wv w.at_ rfl k
  have S1:stV (.ptr W (Nat.add 0 3)) (.bool (br || eqI e (Int.ofNat 7))) h (fun h'=>KI e h'):=by
    refine WE w.at_ rfl rfl w.bs fun h' o n g'=>?_
    exact hk h' ⟨g',by rw [o.base];exact w.bs,w.not⟩ o
  have ok:∀ K:Prop,K→QQ (.ptr W 0) K:=fun K hK=>hK
  cases br with
  | true =>
    simp only [Bool.true_or] at S1
    refine ok _ ?_
    simp only [↓Qw,↓L1,↓Qg,↓Qq,↓QO,↓Qr,↓QS,↓QF,↓Qm,↓Qa]
    exact ok _ S1
  | false =>
    simp only [Bool.false_or] at S1
    refine ok _ ?_
    simp only [↓Qw,↓L1,↓Qg,↓Qq,↓QO,↓Qr,↓QS,↓QF,↓Qm,↓Qa]
    exact ok _ S1
abbrev T17:AV→H→(Int→H→Prop)→Prop:=Qen J0 s10
theorem t22 {h:H} {W:Nat} {g:FsG} {fs:Fs} {seq sg:Nat} (f:FsAt h g fs) (fit:fs.Fits Qe) (ho:fs.off=false) (ha:Zh fs.held.names QdW=none) (w:WalAt h W g seq sg false) (hk:∀ h',FsAt h' g fs→Only noL h h'→KI (Int.ofNat 0) h'):QdQ J0 T17 (.ptr W 0) h KI:=by
  unfold QdQ
  have L0:∀ k,ldV (.ptr W (Nat.add 0 0)) h k=k (.ptr g.id 0):=fun k=>Q1 w.at_ rfl k
  have L1:∀ k,ldB (.ptr W (Nat.add 0 3)) h k=k false:=fun k=>Wv w.at_ rfl k
  have L2:∀ k,ldB (.ptr W (Nat.add 0 4)) h k=k true:=fun k=>Wv w.at_ rfl k
  have ok:∀ K:Prop,QQ (.ptr W 0) K=K:=fun K=>rfl
  have nb:∀ k:Bool→Prop,nilB 0 (.ptr W 0) k=k false:=fun k=>rfl
  simp only [↓nb,↓ok,↓Qw,↓L1,↓L2,↓L0,↓Qg,↓Qq,↓QO,↓Qr,↓QS,↓QF,↓Qm,↓Qa,Bool.not_true]
  refine t17 f fit ha fun h' f' o'=>?_
  rw [ho]
  have z:Bool.not (eqI (Int.ofNat 0) (Int.ofNat 0))=false:=rfl
  simp only [Bool.false_eq_true,if_false,z,↓nb,↓ok,↓Qw,↓L1,↓L2,↓L0,↓Qg,↓Qq,↓QO,↓Qr,↓QS,↓QF,↓Qm,↓Qa,Bool.not_true]
  exact hk h' f' o'
abbrev T20:AV→H→(Int→H→Prop)→Prop:=Qek J0 T26 (Qbe J0) s36 s37
theorem t20 {h:H} {W:Nat} {g:FsG} {fs:Fs} {seq N c:Nat} {cs:Cs} (f:FsAt h g fs) (o:LgOn cs fs) (i:Inv fs N c) (hN:N+72≤Qe) (hc:c≤Qe) (few:cs.length+1 < 99) (w:WalAt h W g seq cs.length false)
    (h1:∀ h' g' fs' x,FsAt h' g' fs'→WalAt h' W g' seq (cs.length+1) false→LgOn (cs++[(x,[])]) fs'→Inv fs' (N+73) (c+1)→NxtX (isW W) h g h' g'→fs'.fused=fs.fused→KI (Int.ofNat 0) h')
    (h2:∀ h' g' fs' x,FsAt h' g' fs'→WalAt h' W g' seq cs.length true→Cr (fun d=>d=cs∨d=cs++[(x,[])]) fs'→Inv fs' (N+73) (c+1)→NxtX (isW W) h g h' g'→fs.fused=true→KI (Int.ofNat 7) h'):T20 (.ptr W 0) h KI:=by
  have hm:Qe=140737488355328:=rfl
  show Qek J0 T26 (Qbe J0) s36 s37 (.ptr W 0) h KI
  unfold Qek
  have fit:fs.Fits Qe:=i.fit.mono (by omega)
  have ok:∀ K:Prop,QQ (.ptr W 0) K=K:=fun K=>rfl
  have L2:∀ k,ldI .i64 (.ptr W (Nat.add 0 2)) h k=k (Int.ofNat cs.length):=fun k=>Q9 w.at_ rfl k
  have L0:∀ k,ldV (.ptr W (Nat.add 0 0)) h k=k (.ptr g.id 0):=fun k=>Q1 w.at_ rfl k
  rw [ok,Qw,L2,Qo,ZE,Yg _ (by omega)]
  refine t26 (by omega) (by omega) ?_
  rw [show (Bool.not (eqI (Int.ofNat 0) (Int.ofNat 0)))=false from rfl,Qg,Qr,ok,Qw,L0]
  have B:=o.begin i hN hc few
  have i1:=i.create (s:=QT (cs.length+1)) (by omega) hc
  have i2:=i1.syncNames (by omega)
  refine p11 f fit (by rw [o.w];decide) fun h10 g10 f10 n10=>?_
  have w10:=w.nxt n10
  refine t27s w10 fun h12 w12 o12=>?_
  have f12:=FsAt.putW f10 w10.not o12
  have n12:NxtX (isW W) h g h12 g10:=(NxtX.of n10).trans (NxtX.put g10 o12 fun _ c=>c)
  rcases B with ⟨e1,B⟩ | ⟨e1,B,hf⟩
  · rw [e1] at w12 ⊢
    rw [show (Bool.not (eqI (0:Int) (Int.ofNat 0)))=false from rfl,Qg,Qr,ok,Qw]
    have L0':∀ k,ldV (.ptr W (Nat.add 0 0)) h12 k=k (.ptr g10.id 0):=fun k=>Q1 w12.at_ rfl k
    rw [L0']
    refine p12 f12 (i1.fit.mono (by omega)) fun h17 g17 f17 n17=>?_
    have w17:=w12.nxt n17
    refine t27s w17 fun h19 w19 o19=>?_
    have f19:=FsAt.putW f17 w17.not o19
    have n19:NxtX (isW W) h g h19 g17:=(n12.trans (NxtX.of n17)).trans (NxtX.put g17 o19 fun _ c=>c)
    rcases B with ⟨e2,l2,hf⟩ | ⟨e2,l2,hf⟩
    · rw [e2] at w19 ⊢
      rw [show (Bool.not (eqI (0:Int) (Int.ofNat 0)))=false from rfl,Qg,Qr,ok,Qw]
      have L2':∀ k,ldI .i64 (.ptr W (Nat.add 0 2)) h19 k=k (Int.ofNat cs.length):=fun k=>Q9 w19.at_ rfl k
      rw [L2',Qo,ZE,Yg _ (by omega),ok,Qw]
      refine WE w19.at_ rfl rfl w19.bs fun h26 o26 n26 g26=>?_
      exact h1 _ _ _ _ (FsAt.putW f19 w19.not o26) ⟨g26,by rw [o26.base];exact w19.bs,w19.not⟩ l2 i2 (n19.trans (NxtX.put g17 o26 fun _ c=>c)) hf
    · rw [e2] at w19 ⊢
      exact h2 _ _ _ _ f19 w19 l2 i2 n19 hf
  · rw [e1] at w12 ⊢
    exact h2 _ _ _ 0 f12 w12 (fun k t hk ht=>by
      obtain ⟨a,b,d,hd,l⟩:=B k t hk ht
      exact ⟨a,b,d,.inl hd,l⟩) (i1.mono (by omega) (Nat.le_refl _)) n12 hf
end
end Go.Proofs.YtfgdelkdmdmfgaaDoor
namespace Go.Proofs.YtfgdelkdmdmfgaaDoor
open Go Go.Am
set_option linter.all false
set_option maxRecDepth 100000
abbrev T23:AV→H→(Int→H→Prop)→Prop:=s9G J0 (Nb J0)
abbrev T24:AV→H→(AV→Int→H→Prop)→Prop:=Qei J0 (s9G J0 (Nb J0)) (Qaj J0) (QdO J0 (Qaj J0))
abbrev T25:AV→AV→H→(AV→Int→H→Prop)→Prop:=Qeh J0 (Xk J0 (Xj J0 (J1 J0)))
abbrev T9:AV→AV→H→(Int→Int→H→Prop)→Prop:=s8G J0 T23 (QdQ J0 T17) T24 T25 T26 (Qbe J0) s26 s27
theorem K4 {s:Nat} {l:List Wt} (hs:s≤1073741824) (hc:Y6 l=Int.ofNat 0):(YK s l).length≤400000:=by
  obtain ⟨_,c1,c2,_⟩:=Qct hc
  have:=Qbn hs c1 c2 l.length
  unfold preB at this
  rw [List.take_length] at this
  exact this
theorem LgOn.ha {cs:Cs} {fs:Fs} (o:LgOn cs fs):Zh fs.held.names QdW=none:=by
  rw [o.held]
  have:=o.lg.few
  exact o.lg.nm2 _ fun i hi e=>any_not (i+1) (by omega) e.symm
theorem Qbf {α:Type} {f:α→List AV} {es:Nat} {h:H} {v:AV} {l:List α} (q:RowP f es h v l):ZB v=true:=by
  rcases q with ⟨rfl,_⟩ | ⟨id,c,ex,m,t,r,rfl,_⟩ <;> rfl
section
variable {K2:Int→Int→H→Prop}
theorem t9 {h:H} {W:Nat} {g:FsG} {fs:Fs} {seq N c:Nat} {cs:Cs} {x:Int} {d:List UInt8} {v:AV} {l:List Wt} (f:FsAt h g fs) (o:LgOn (cs++[(x,d)]) fs) (i:Inv fs N c) (hN:N+73 * 500000≤Qe) (hc:c≤1000000) (hq:seq+1≤1000000) (w:WalAt h W g seq (cs.length+1) false) (q:RowP wrc 3 h v l)
    (h0:∀ h',Y6 l≠Int.ofNat 0→FsAt h' g fs→Only noL h h'→K2 (Int.ofNat 0) (Y6 l) h')
    (h8:∀ h' g',Y6 l=Int.ofNat 0→fs.space < Int.ofNat (Qs (YK (seq+1) l)).length→FsAt h' g' fs→WalAt h' W g' seq (cs.length+1) false→NxtX (isW W) h g h' g'→K2 (Int.ofNat 0) (Int.ofNat 8) h')
    (h1:∀ h' g' fs',Y6 l=Int.ofNat 0→FsAt h' g' fs'→WalAt h' W g' (seq+1) (cs.length+1) false→LgOn (cs++[(x,d++Qs (YK (seq+1) l))]) fs'→Inv fs' (N+73 * 400100) c→NxtX (isW W) h g h' g'→fs'.fused=fs.fused→K2 (Int.ofNat (seq+1)) (Int.ofNat 0) h')
    (h7:∀ h' g' fs',Y6 l=Int.ofNat 0→FsAt h' g' fs'→WalAt h' W g' seq (cs.length+1) true→Cr (fun e=>∃ p,p <+: Qs (YK (seq+1) l)∧e=cs++[(x,d++p)]) fs'→Inv fs' (N+73 * 400100) c→NxtX (isW W) h g h' g'→fs.fused=true→K2 (Int.ofNat 0) (Int.ofNat 7) h'):T9 (.ptr W 0) v h K2:=by
  have hm:Qe=140737488355328:=rfl
  show s8G J0 T23 (QdQ J0 T17) T24 T25 T26 (Qbe J0) s26 s27 (.ptr W 0) v h K2
  unfold s8G
  have fit:fs.Fits Qe:=i.fit.mono (by omega)
  refine t22 f fit o.on o.ha w fun ha fa oa=>?_
  rw [show (Bool.not (eqI (Int.ofNat 0) (Int.ofNat 0)))=false from rfl,Qg,Qr]
  have qa:=q.low (Vh oa) (Nat.le_refl _)
  refine t14 qa fa.wf fun hb lb=>?_
  have ob:Only noL h hb:=oa.trans lb.only fun _ _=>id
  have fb:=fa.only lb.only fun _ _=>id
  rcases Decidable.em (¬ Y6 l=Int.ofNat 0) with hck | hck
  · have : eqI (Y6 l) (Int.ofNat 0) = false := Q4.2 hck
    rw [this,Qg,show Bool.not false=true from rfl,QO]
    exact h0 hb hck fb ob
  have hck:=Decidable.not_not.1 hck
  rw [hck,show (Bool.not (eqI (Int.ofNat 0) (Int.ofNat 0)))=false from rfl,Qg,Qr]
  have ok:∀ K:Prop,QQ (.ptr W 0) K=K:=fun K=>rfl
  have wb:=w.nxt (Nxt.pure g ob)
  have L1:∀ k,ldI .i64 (.ptr W (Nat.add 0 1)) hb k=k (Int.ofNat seq):=fun k=>Q9 wb.at_ rfl k
  rw [ok,Qw,L1,W5,decide_eq_false (by omega),Qg,Qr,ok,Qw,L1,Qo,ZE,Yg _ (by omega)]
  have qb:=qa.low lb (Nat.le_refl _)
  refine Qp (Qbf qb) ?_
  have e1:Qcr (Int.ofNat (seq+1)) l=Int.ofNat 0:=by
    unfold Qcr
    rw [if_neg (by
      have:Int.ofNat (seq+1)=((seq+1:Nat):Int):=rfl
      omega),hck]
  have e2:QdV (Int.ofNat (seq+1)) l=YK (seq+1) l:=by unfold QdV;rw [if_pos e1];rfl
  refine t8 qb fb.wf fun v14 hcc rc lc=>?_
  skip
  rw [e2] at rc
  have hlen:=K4 (s:=seq+1) (by omega) hck
  have fc:=fb.only lc.only fun _ _=>id
  refine t25 rc.slb fc.wf (by omega) fun v17 hd rd ld=>?_
  have fd:=fc.only ld.only fun _ _=>id
  have od:Only noL h hd:=(ob.trans lc.only fun _ _=>id).trans ld.only fun _ _=>id
  have wd:=w.nxt (Nxt.pure g od)
  have L2:∀ k,ldI .i64 (.ptr W (Nat.add 0 2)) hd k=k (Int.ofNat (cs.length+1)):=fun k=>Q9 wd.at_ rfl k
  have L0:∀ k,ldV (.ptr W (Nat.add 0 0)) hd k=k (.ptr g.id 0):=fun k=>Q1 wd.at_ rfl k
  have few:=o.lg.few
  rw [List.length_append] at few
  have few:cs.length+1 < 99:=few
  rw [ok,Qw,L2]
  refine t26 (by omega) (by omega) ?_
  rw [ok,Qw,L0]
  have fl:=Zd (YK (seq+1) l)
  have P:=o.put i (b:=Qs (YK (seq+1) l)) (by omega)
  have i1:=i.append (QT (cs.length+1)) (Qs (YK (seq+1) l)) (by omega)
  have i2:=i1.sync (by omega) (QT (cs.length+1))
  refine p16 fd rd.slb i.fit (by omega) (by have:=i.held.len;omega) fun he ge fe ne=>?_
  have we:=wd.nxt ne
  have ne':NxtX (isW W) h g he ge:=(NxtX.pure g od).trans (NxtX.of ne)
  refine t27s we fun hf wf of=>?_
  have ff:=FsAt.putW fe we.not of
  have nf:NxtX (isW W) h g hf ge:=ne'.trans (NxtX.put ge of fun _ c=>c)
  rcases P with ⟨P,sp⟩ | ⟨P1,P⟩ | ⟨P1,P,fu⟩
  · rw [P] at wf ff ⊢
    exact h8 _ _ hck sp ff wf nf
  · rw [P1] at wf ⊢
    rw [show (Bool.not (eqI (0:Int) (Int.ofNat 0)))=false from rfl,Qg,Qr,ok,Qw]
    have L0':∀ k,ldV (.ptr W (Nat.add 0 0)) hf k=k (.ptr ge.id 0):=fun k=>Q1 wf.at_ rfl k
    rw [L0']
    refine p14 ff (i1.fit.mono (by omega)) fun hg gg fg ng=>?_
    have wg:=wf.nxt ng
    refine t27s wg fun hh wh oh=>?_
    have fh:=FsAt.putW fg wg.not oh
    have nh:NxtX (isW W) h g hh gg:=(nf.trans (NxtX.of ng)).trans (NxtX.put gg oh fun _ c=>c)
    rcases P with ⟨P2,P3,P4⟩ | ⟨P2,P3,P4⟩
    · rw [P2] at wh ⊢
      rw [show (Bool.not (eqI (0:Int) (Int.ofNat 0)))=false from rfl,Qg,Qr,ok,Qw]
      have L1':∀ k,ldI .i64 (.ptr W (Nat.add 0 1)) hh k=k (Int.ofNat seq):=fun k=>Q9 wh.at_ rfl k
      rw [L1',Qo,ZE,Yg _ (by omega),ok]
      refine WE wh.at_ rfl rfl wh.bs fun hi oi ni gi=>?_
      rw [ok,Qw]
      have wi:WalAt hi W gg (seq+1) (cs.length+1) false:=⟨gi,by rw [oi.base];exact wh.bs,wh.not⟩
      have L1'':∀ k,ldI .i64 (.ptr W (Nat.add 0 1)) hi k=k (Int.ofNat (seq+1)):=fun k=>Q9 wi.at_ rfl k
      rw [L1'']
      exact h1 _ _ _ hck (FsAt.putW fh wh.not oi) wi P3 (i2.mono (by omega) (Nat.le_refl _)) (nh.trans (NxtX.put gg oi fun _ c=>c)) P4
    · rw [P2] at wh ⊢
      exact h7 _ _ _ hck fh wh P3 (i2.mono (by omega) (Nat.le_refl _)) nh P4
  · rw [P1] at wf ⊢
    exact h7 _ _ _ hck ff wf P (i1.mono (by omega) (Nat.le_refl _)) nf fu
end
end Go.Proofs.YtfgdelkdmdmfgaaDoor
