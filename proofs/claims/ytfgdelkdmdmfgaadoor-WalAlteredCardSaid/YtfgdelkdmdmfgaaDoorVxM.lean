import Derived.Test.YtfgdelkdmdmfgaaDoorVxJ
noncomputable section
namespace Go.Proofs.YtfgdelkdmdmfgaaDoor
open Go Go.Am
set_option linter.all false
set_option maxRecDepth 100000
theorem body16 (J:Qh) (c27:AV→H→(Int→H→Prop)→Prop) (c36:AV→AV→H→(Int→H→Prop)→Prop) (c39:AV→Str→H→(Int→Int→H→Prop)→Prop) (c41:AV→Int→H→(AV→H→Prop)→Prop) (c42:AV→H→(AV→H→Prop)→Prop)
    (e0 e1 e2 e4 e5 e8 e10 e11 e12 e13 e14 e15 e16 e17 e18 e19 e20 e21 e22 e23 e24 e25 e26 e27 e28 e29 e30 e31 e32 e33 e34 e35 e36 v:AV) (n1 n3 n9:Nat) (h:H) (A C:H→Prop) (B:Nat→H→Prop) :
    Qcs ty (UR J [(29,w29 c39),(30,w30 c42),(43,w43 c27),(44,w44 c41),(45,w45 c36)] [] Wh) (Qbg Tryd.f26 0).2 ⟨fun _ _ h=>A h,fun i _ _ h=>B i h,fun _ _ h=>C h⟩ [e0,e1,e2,.ptr n1 0,e4,e5,.ptr n3 0,.ptr n9 0,e8,v,e10,e11,e12,e13,e14,e15,e16,e17,e18,e19,e20,e21,e22,e23,e24,e25,e26,e27,e28,e29,e30,e31,e32,e33,e34,e35,e36] [] h =
    (ldV (AV.ptr n1 0) h fun v1=>
ldI .i64 (AV.ptr n9 0) h fun x2=>
c42 v h fun v4 h3=>
ck (Zz (Zn (AV.ptr n9 0) h3) (AV.int .i64 x2)) (
ck (Zz (Zn (AV.ptr n1 0) h3) v1) (
ck (ZB v4) (c36 v1 (AV.agg [(AV.int .i64 (Int.ofNat 0)),(.str ⟨0,0⟩),(.str ⟨0,0⟩),(AV.int .i64 x2),v4]) h3 fun x6 h5=>
fB (Bool.not (eqI x6 (Int.ofNat 0))) fun b7=>
br b7 (
stV (AV.ptr n3 0) (AV.int .i64 x6) h5 fun h8=>
C h8) (
A h5))))) := by
  kernel_rfl
theorem assign16 (J:Qh) (l:List (Nat × Fun)) (e0 e1 e2 e3 e4 e5 e6 e7 e8 e9 e10 e11 e12 e13 e14 e15 e16 e17 e18 e19 e20 e21 e22 e23 e24 e25 e26 e28 e29 e30 e31 e32 e33 e34 e35 e36 v:AV) (h:H) (N:List AV→List Dfr→H→Prop) (X:Nat→List AV→List Dfr→H→Prop) (R:List AV→List Dfr→H→Prop) :
    Qcs ty (UR J l [] Wh) (Qbg Tryd.f26 0).1 ⟨N,X,R⟩ [e0,e1,e2,e3,e4,e5,e6,e7,e8,e9,e10,e11,e12,e13,e14,e15,e16,e17,e18,e19,e20,e21,e22,e23,e24,e25,e26,v,e28,e29,e30,e31,e32,e33,e34,e35,e36] [] h=N [e0,e1,e2,e3,e4,e5,e6,e7,e8,v,e10,e11,e12,e13,e14,e15,e16,e17,e18,e19,e20,e21,e22,e23,e24,e25,e26,v,e28,e29,e30,e31,e32,e33,e34,e35,e36] [] h:=by
  kernel_rfl
end Go.Proofs.YtfgdelkdmdmfgaaDoor
namespace Go.Am
open Go
set_option linter.all false
def Fs.puts (n:Int) (b:List UInt8):Nat→Nat→Fs→Int × Fs
  | 0,_,fs=>(0,fs)
  | c+1,i,fs=>if i < b.length then (if (fs.pend ⟨0,[],[],n,(b.drop i).take 64⟩).1=0 then Fs.puts n b c (i+64) (fs.pend ⟨0,[],[],n,(b.drop i).take 64⟩).2 else fs.pend ⟨0,[],[],n,(b.drop i).take 64⟩) else (0,fs)
def Fs.append (fs:Fs) (s:List UInt8) (b:List UInt8):Int × Fs :=
  if (fs.file s).2≠0 then ((fs.file s).2,fs) else if fs.space < Int.ofNat b.length then (8,fs) else fs.puts (fs.file s).1 b b.length 0
theorem Fs.Fits.raw {fs:Fs} {N:Nat} (f:fs.Fits N):fs.raw.2.Fits N:=by
  obtain ⟨n,h1,h2⟩:=f;exact ⟨n,by rw [Fs.raw_sure];exact h1,by rw [Fs.raw_wait];exact h2⟩
theorem Fs.Fits.pend {fs:Fs} {N:Nat} (f:fs.Fits N) (s:Stp):(fs.pend s).2.Fits (N+(s.bytes.length+72)):=by
  unfold Fs.pend
  split
  · obtain ⟨n, h1, h2⟩ := f
    refine ⟨n,?_,?_⟩
    · show Bnd n fs.raw.2.sure;rw [Fs.raw_sure];exact h1
    · show n + Wp (fs.wait ++ [s]) ≤ _
      rw [Ga]
      have:Wp [s]=s.bytes.length+72:=by simp [Wp]
      omega
  · exact f.raw.mono (Nat.le_add_right _ _)
theorem Fs.Fits.wait {fs:Fs} {N:Nat} (f:fs.Fits N):fs.wait.length * 72≤N:=by
  obtain ⟨n,h1,h2⟩:=f;have:=Km fs.wait;omega
theorem V3 {id:Nat} {st st':LoopState} {p p':Option Code} {ps:List Nat} {a b:Code} {e:List AV} {h:H} {k:H→Prop} (g:h.get id=.loop st p ps a b e) (hb:h.base≤id)
    (hk:∀ h',Only (· = id) h h'→h'.next=h.next→h'.get id=.loop st' p' ps a b e→k h'):Zr id st' p' h k:=by
  unfold Zr
  rw [g]
  exact U3 g rfl (by intros;intro c;cases c) hb hk
def Qcd (id:Nat) (k:AV→H→Prop):Ks:=⟨fun _ _ h3=>Zr id .ready none h3 (k (.bool true)),fun i _ _ h3=>Zr id .done (some (.exit i)) h3 (k (.bool false)),fun _ _ h3=>Zr id .done (some .ret) h3 (k (.bool false))⟩
def Qal (G:Gam) (id:Nat) (b:Code) (k:AV→H→Prop):List AV→List Dfr→H→Prop:=fun e1 d1 h1=>match h1.get id with
  | .loop .ready pend _ _ _ _=>Zr id .busy pend h1 fun h2=>G.code b (Qcd id k) e1 d1 h2
  | _=>False
theorem yield_loop {G:Gam} {id q:Nat} {a b:Code} {env:List AV} {v:AV} {h:H} {k:AV→H→Prop} (gl:h.get id=.loop .ready none [q] a b env) :
    K8 G (.yield id) [v] h k=G.code a ⟨fun e1 d1 h1=>match h1.get id with
      | .loop .ready pend _ _ _ _=>Zr id .busy pend h1 fun h2=>G.code b (Qcd id k) e1 d1 h2
      | _=>False,fun _ _ _ _=>False,fun _ _ _=>False⟩ (XB env q v) [] h:=by
  show Xh G id [v] h k=_
  unfold Xh
  rw [gl]
  rfl
theorem round_loop {G:Gam} {id q:Nat} {a b:Code} {env e:List AV} {d:List Dfr} {h:H} {k:AV→H→Prop} (gl:h.get id=.loop .ready none [q] a b env) :
    Qal G id b k e d h=Zr id .busy none h fun h2=>G.code b (Qcd id k) e d h2:=by
  unfold Qal
  rw [gl]
end Go.Am
namespace Go.Proofs.YtfgdelkdmdmfgaaDoor
open Go Go.Am
set_option linter.all false
set_option maxRecDepth 100000
def gY:Gam:=UR J0 [] [] (Qcs ty (UR J0 [(29,w29 s29),(30,w30 s30),(43,w43 N5),(44,w44 s44),(45,w45 s45)] [] Wh))
def N8 (st:LoopState) (p:Option Code) (E:List AV):Blk:=.loop st p [27] (Qbg Tryd.f26 0).1 (Qbg Tryd.f26 0).2 E
theorem yield16 {h:H} {id nF nE nN:Nat} {e0 e1 e2 e4 e5 e8 e9 e10 e11 e12 e13 e14 e15 e16 e17 e18 e19 e20 e21 e22 e23 e24 e25 e26 e27 e28 e29 e30 e31 e32 e33 e34 e35 e36 v:AV} {k:AV→H→Prop} (gl:h.get id=N8 .ready none [e0,e1,e2,.ptr nF 0,e4,e5,.ptr nE 0,.ptr nN 0,e8,e9,e10,e11,e12,e13,e14,e15,e16,e17,e18,e19,e20,e21,e22,e23,e24,e25,e26,e27,e28,e29,e30,e31,e32,e33,e34,e35,e36]) (hb:h.base≤id)
    (hk:∀ h2,Only (· = id) h h2→h2.next=h.next→h2.get id=N8 .busy none [e0,e1,e2,.ptr nF 0,e4,e5,.ptr nE 0,.ptr nN 0,e8,e9,e10,e11,e12,e13,e14,e15,e16,e17,e18,e19,e20,e21,e22,e23,e24,e25,e26,e27,e28,e29,e30,e31,e32,e33,e34,e35,e36] →
      (ldV (AV.ptr nF 0) h2 fun v1=>
ldI .i64 (AV.ptr nN 0) h2 fun x2=>
s30 v h2 fun v4 h3=>
ck (Zz (Zn (AV.ptr nN 0) h3) (AV.int .i64 x2)) (
ck (Zz (Zn (AV.ptr nF 0) h3) v1) (
ck (ZB v4) (s45 v1 (AV.agg [(AV.int .i64 (Int.ofNat 0)),(.str ⟨0,0⟩),(.str ⟨0,0⟩),(AV.int .i64 x2),v4]) h3 fun x6 h5=>
fB (Bool.not (eqI x6 (Int.ofNat 0))) fun b7=>
br b7 (
stV (AV.ptr nE 0) (AV.int .i64 x6) h5 fun h8=>
Zr id .done (some .ret) h8 (k (.bool false))) (
Zr id .ready none h5 (k (.bool true)))))))):K8 gY (.yield id) [v] h k:=by
  unfold N8 at gl
  rw [yield_loop gl]
  show gY.code (Qbg Tryd.f26 0).1 ⟨Qal gY id (Qbg Tryd.f26 0).2 k,_,_⟩ _ [] h
  refine (assign16 J0 [(29,w29 s29),(30,w30 s30),(43,w43 N5),(44,w44 s44),(45,w45 s45)] e0 e1 e2 (.ptr nF 0) e4 e5 (.ptr nE 0) (.ptr nN 0) e8 e9 e10 e11 e12 e13 e14 e15 e16 e17 e18 e19 e20 e21 e22 e23 e24 e25 e26 e28 e29 e30 e31 e32 e33 e34 e35 e36 v h (Qal gY id (Qbg Tryd.f26 0).2 k) (fun _ _ _ _=>False) (fun _ _ _=>False)).mpr ?_
  rw [round_loop gl]
  refine V3 gl hb fun h2 o2 n2 g2=>?_
  refine (body16 J0 N5 s45 s29 s44 s30 e0 e1 e2 e4 e5 e8 e10 e11 e12 e13 e14 e15 e16 e17 e18 e19 e20 e21 e22 e23 e24 e25 e26 v e28 e29 e30 e31 e32 e33 e34 e35 e36 v nF nE nN h2 (fun h3=>Zr id .ready none h3 (k (.bool true))) (fun h3=>Zr id .done (some .ret) h3 (k (.bool false))) (fun i h3=>Zr id .done (some (.exit i)) h3 (k (.bool false)))).mpr ?_
  exact hk h2 o2 n2 g2
end Go.Proofs.YtfgdelkdmdmfgaaDoor
namespace Go.Proofs.YtfgdelkdmdmfgaaDoor
open Go Go.Am
set_option linter.all false
set_option maxRecDepth 100000
structure NxtX (X:Nat→Prop) (h:H) (g:FsG) (h':H) (g':FsG):Prop where
  id:g'.id=g.id
  o:Only (fun i=>Own g i∨X i) h h'
  own:∀ i,Own g' i→Own g i∨h.next≤i
theorem NxtX.of {X:Nat→Prop} {h h':H} {g g':FsG} (n:Nxt h g h' g'):NxtX X h g h' g':=⟨n.id,n.o.imp fun _ _ c=>.inl c,n.own⟩
theorem NxtX.put {X:Nat→Prop} {h h':H} (g:FsG) {L:Nat→Prop} (o:Only L h h') (hl:∀ i,L i→X i):NxtX X h g h' g:=⟨rfl,o.imp fun i _ c=>.inr (hl i c),fun _=>.inl⟩
theorem NxtX.trans {X:Nat→Prop} {h h1 h2:H} {g g1 g2:FsG} (a:NxtX X h g h1 g1) (b:NxtX X h1 g1 h2 g2):NxtX X h g h2 g2 :=
  ⟨b.id.trans a.id,a.o.trans b.o fun i hi c=>c.imp (fun c=>(a.own i c).resolve_right (by omega)) (fun c=>c),fun i c=>(b.own i c).elim (a.own i) fun hi=>.inr (Nat.le_trans a.o.next hi)⟩
structure B16 (g:FsG) (n:Int) (v:AV) (E:List AV) (nF nE nN cS cN id0 id:Nat) (h:H):Prop where
  gF:h.get nF=.cells false 25 [.ptr g.id 0]
  gN:h.get nN=.cells false 3 [.int .i64 n]
  gE:∃ x,h.get nE=.cells false 26 [.int .i64 x]
  gS:h.get cS=.cells false 39 [v]
  gC:h.get cN=.cells false 3 [.int .i64 (Int.ofNat 64)]
  g0:h.get id0=.defd true
  bE:h.base≤nE
  b0:h.base≤id0
  bI:h.base≤id
structure Far (g:FsG) (nF nE nN cS cN id0 id:Nat):Prop where
  all:∀ j,(j=nF∨j=nE∨j=nN∨j=cS∨j=cN∨j=id0∨j=id)→¬ Own g j
  i1:id≠nF∧id≠nE∧id≠nN∧id≠cS∧id≠cN∧id≠id0
  e1:nE≠nF∧nE≠nN∧nE≠cS∧nE≠cN∧nE≠id0
theorem B16.only {g:FsG} {n:Int} {v:AV} {E:List AV} {nF nE nN cS cN id0 id:Nat} {h h':H} {L:Nat→Prop} (q:B16 g n v E nF nE nN cS cN id0 id h) (o:Only L h h')
    (hL:¬ L nF∧¬ L nE∧¬ L nN∧¬ L cS∧¬ L cN∧¬ L id0):B16 g n v E nF nE nN cS cN id0 id h':=by
  obtain ⟨x,gE⟩:=q.gE
  exact ⟨o.at q.gF rfl hL.1,o.at q.gN rfl hL.2.2.1,⟨x,o.at gE rfl hL.2.1⟩,o.at q.gS rfl hL.2.2.2.1,o.at q.gC rfl hL.2.2.2.2.1,o.at q.g0 rfl hL.2.2.2.2.2,by rw [o.base];exact q.bE,by rw [o.base];exact q.b0,by rw [o.base];exact q.bI⟩
theorem round16 {h:H} {g:FsG} {fs:Fs} {n:Int} {v w:AV} {p:List UInt8} {nF nE nN cS cN id0 id:Nat} {e0 e1 e2 e4 e5 e8 e9 e10 e11 e12 e13 e14 e15 e16 e17 e18 e19 e20 e21 e22 e23 e24 e25 e26 e27 e28 e29 e30 e31 e32 e33 e34 e35 e36:AV} {k:AV→H→Prop} {N:Nat}
    (q:B16 g n w [e0,e1,e2,.ptr nF 0,e4,e5,.ptr nE 0,.ptr nN 0,e8,e9,e10,e11,e12,e13,e14,e15,e16,e17,e18,e19,e20,e21,e22,e23,e24,e25,e26,e27,e28,e29,e30,e31,e32,e33,e34,e35,e36] nF nE nN cS cN id0 id h) (gl:h.get id=N8 .ready none [e0,e1,e2,.ptr nF 0,e4,e5,.ptr nE 0,.ptr nN 0,e8,e9,e10,e11,e12,e13,e14,e15,e16,e17,e18,e19,e20,e21,e22,e23,e24,e25,e26,e27,e28,e29,e30,e31,e32,e33,e34,e35,e36]) (far:Far g nF nE nN cS cN id0 id) (f:FsAt h g fs) (hp:SlB h v p) (hN:fs.Fits N) (hl:N+(p.length+72)≤Qe)
    (hk:∀ h' g',FsAt h' g' (fs.pend ⟨0,[],[],n,p⟩).2→NxtX (fun i=>i=id∨i=nE) h g h' g'→(fs.pend ⟨0,[],[],n,p⟩).1=0→B16 g n w [e0,e1,e2,.ptr nF 0,e4,e5,.ptr nE 0,.ptr nN 0,e8,e9,e10,e11,e12,e13,e14,e15,e16,e17,e18,e19,e20,e21,e22,e23,e24,e25,e26,e27,e28,e29,e30,e31,e32,e33,e34,e35,e36] nF nE nN cS cN id0 id h'→h'.get id=N8 .ready none [e0,e1,e2,.ptr nF 0,e4,e5,.ptr nE 0,.ptr nN 0,e8,e9,e10,e11,e12,e13,e14,e15,e16,e17,e18,e19,e20,e21,e22,e23,e24,e25,e26,e27,e28,e29,e30,e31,e32,e33,e34,e35,e36]→k (.bool true) h')
    (hk2:∀ h' g',FsAt h' g' (fs.pend ⟨0,[],[],n,p⟩).2→NxtX (fun i=>i=id∨i=nE) h g h' g'→(fs.pend ⟨0,[],[],n,p⟩).1≠0→B16 g n w [e0,e1,e2,.ptr nF 0,e4,e5,.ptr nE 0,.ptr nN 0,e8,e9,e10,e11,e12,e13,e14,e15,e16,e17,e18,e19,e20,e21,e22,e23,e24,e25,e26,e27,e28,e29,e30,e31,e32,e33,e34,e35,e36] nF nE nN cS cN id0 id h'→h'.get nE=.cells false 26 [.int .i64 (fs.pend ⟨0,[],[],n,p⟩).1]→h'.get id=N8 .done (some .ret) [e0,e1,e2,.ptr nF 0,e4,e5,.ptr nE 0,.ptr nN 0,e8,e9,e10,e11,e12,e13,e14,e15,e16,e17,e18,e19,e20,e21,e22,e23,e24,e25,e26,e27,e28,e29,e30,e31,e32,e33,e34,e35,e36]→k (.bool false) h'):K8 gY (.yield id) [v] h k:=by
  refine yield16 gl q.bI fun h2 o2 n2 g2=>?_
  have hI:=far.all id (.inr (.inr (.inr (.inr (.inr (.inr rfl))))))
  have hE:=far.all nE (.inr (.inl rfl))
  have i1:=far.i1
  have q2:=q.only o2 ⟨fun e=>i1.1 e.symm,fun e=>i1.2.1 e.symm,fun e=>i1.2.2.1 e.symm,fun e=>i1.2.2.2.1 e.symm,fun e=>i1.2.2.2.2.1 e.symm,fun e=>i1.2.2.2.2.2 e.symm⟩
  have f2:=f.only o2 fun i c e=>hI (e ▸ c)
  rw [Q1 q2.gF rfl,Q9 q2.gN rfl]
  refine p42 (hp.only o2) f2.wf (by omega) fun v4 h3 r3 o3=>?_
  have q3:=q2.only o3 ⟨_root_.id,_root_.id,_root_.id,_root_.id,_root_.id,_root_.id⟩
  have f3:=f2.only o3 fun _ _=>_root_.id
  have g3:=o3.at g2 rfl _root_.id
  refine Qp (Zy (Z1 q3.gN) (U0 _ _)) (Qp (Zy (Z1 q3.gF) (by simp [AV.same])) (Qp (SlB.ofRow r3).one ?_))
  refine p36 (s:=⟨0,[],[],n,p⟩) (u:=v4) f3 (SlB.ofRow r3) (by have:=hN.wait;omega) fun h5 g5 f5 nx=>?_
  have nf:∀ j,(j=nF∨j=nE∨j=nN∨j=cS∨j=cN∨j=id0∨j=id)→¬ Own g j:=far.all
  have q5':=q3.only nx.o ⟨nf _ (.inl rfl),nf _ (.inr (.inl rfl)),nf _ (.inr (.inr (.inl rfl))),nf _ (.inr (.inr (.inr (.inl rfl)))),nf _ (.inr (.inr (.inr (.inr (.inl rfl))))),nf _ (.inr (.inr (.inr (.inr (.inr (.inl rfl))))))⟩
  have g5l:=nx.o.at g3 rfl hI
  have o23:Only (fun i=>i=id∨i=nE) h h3:=(o2.imp fun _ _ c=>.inl c).trans o3 fun _ _ c=>c.elim
  have nx5:NxtX (fun i=>i=id∨i=nE) h g h5 g5:=(NxtX.put g o23 fun _ c=>c).trans (NxtX.of nx)
  have far5:∀ j,(j=nE∨j=id)→j < h3.next→¬ Own g5 j:=fun j hj hl c=>by
    rcases nx.own j c with c | c
    · exact nf j (by rcases hj with rfl | rfl <;> simp) c
    · omega
  obtain ⟨x0,gE⟩:=q3.gE
  have lE:nE < h3.next:=H.lt_of_live (by rw [gE];rfl)
  have lI:id < h3.next:=H.lt_of_live (by rw [g3];rfl)
  rw [Qg]
  refine QP (fun h0=>?_) fun h0=>?_
  · have h0 : (fs.pend ⟨0, [], [], n, p⟩).1 ≠ 0 := Q4.1 (Am.not_true.1 h0)
    obtain ⟨x5,gE5⟩:=q5'.gE
    refine WE gE5 rfl rfl q5'.bE fun h8 o8 n8 g8=>?_
    have g8l:=o8.at g5l rfl fun e=>i1.2.1 e
    refine V3 g8l (by rw [o8.base];exact q5'.bI) fun h9 o9 n9 g9=>?_
    have o59:Only (fun i=>i=id∨i=nE) h5 h9:=(o8.imp fun _ _ c=>.inr c).trans o9 fun _ _ c=>.inl c
    have gE9:=o9.at g8 rfl fun e=>i1.2.1 e.symm
    have f9:=f5.only o59 fun i c e=>far5 i (by rcases e with e | e;exact .inr e;exact .inl e) (by rcases e with rfl | rfl;exact lI;exact lE) c
    have e1:=far.e1
    refine hk2 h9 g5 f9 (nx5.trans (NxtX.put g5 o59 fun _ c=>c)) h0 ?_ gE9 g9
    exact ⟨o59.at q5'.gF rfl (by rintro (e | e);exact i1.1 e.symm;exact e1.1 e.symm),o59.at q5'.gN rfl (by rintro (e | e);exact i1.2.2.1 e.symm;exact e1.2.1 e.symm),⟨_,gE9⟩,
      o59.at q5'.gS rfl (by rintro (e | e);exact i1.2.2.2.1 e.symm;exact e1.2.2.1 e.symm),o59.at q5'.gC rfl (by rintro (e | e);exact i1.2.2.2.2.1 e.symm;exact e1.2.2.2.1 e.symm),o59.at q5'.g0 rfl (by rintro (e | e);exact i1.2.2.2.2.2 e.symm;exact e1.2.2.2.2 e.symm),
      by rw [o59.base];exact q5'.bE,by rw [o59.base];exact q5'.b0,by rw [o59.base];exact q5'.bI⟩
  · have h0 : (fs.pend ⟨0, [], [], n, p⟩).1 = 0 := Zp.1 (ZT.1 h0)
    refine V3 g5l q5'.bI fun h9 o9 n9 g9=>?_
    have f9:=f5.only o9 fun i c e=>far5 i (.inr e) (by rw [e];exact lI) c
    exact hk h9 g5 f9 (nx5.trans (NxtX.put g5 o9 fun _ c=>.inl c)) h0 (q5'.only o9 ⟨fun e=>i1.1 e.symm,fun e=>i1.2.1 e.symm,fun e=>i1.2.2.1 e.symm,fun e=>i1.2.2.2.1 e.symm,fun e=>i1.2.2.2.2.1 e.symm,fun e=>i1.2.2.2.2.2 e.symm⟩) g9
end Go.Proofs.YtfgdelkdmdmfgaaDoor
