import Derived.Test.YtfgdelkdmdmfgaaDoorVxM
namespace Go.Am
open Go
set_option linter.all false
theorem puts_end {n:Int} {b:List UInt8} {i:Nat} (h:b.length≤i) (c:Nat) (fs:Fs):fs.puts n b c i=(0,fs):=by
  cases c with
  | zero=>rfl
  | succ c=>show (if i < b.length then _ else _)=_;rw [if_neg (by omega)]
theorem take_min (b:List UInt8) (i:Nat):(b.drop i).take (min 64 (b.length - i))=(b.drop i).take 64:=by
  by_cases h:64≤b.length - i
  · rw [Nat.min_eq_left h]
  · rw [Nat.min_eq_right (by omega),List.take_of_length_le (by simp),List.take_of_length_le (by simp;omega)]
end Go.Am
namespace Go.Proofs.YtfgdelkdmdmfgaaDoor
open Go Go.Am
set_option linter.all false
set_option maxRecDepth 100000
theorem spX_some (v:AV) (k:AV→Prop):spX (some v) k=k v:=rfl
theorem gY_is:UR J0 [] [] (Qcs ty (UR J0 [(29,g29),(30,g30),(43,QeT),(44,g44),(45,g45)] [] Wh))=gY:=by
  unfold gY g29 g30 QeT g44 g45;rfl
structure I16 (h0:H) (g0:FsG) (fs0:Fs) (n:Int) (w:AV) (b:List UInt8) (N:Nat) (E:List AV) (nF nE nN cS cN id0 id:Nat) (m:Nat) (v:AV × AV × AV × AV × Unit) (d:List Dfr) (h:H) (i c:Nat) (fs:Fs) (g:FsG):Prop where
  m:m=b.length+64 - i
  le:i≤b.length+63
  v:v=(.yield id,.ptr cS 0,.ptr cN 0,.int .i64 (Int.ofNat i),())
  d:d=[]
  cl:b.length≤c+i
  f:FsAt h g fs
  nx:NxtX (fun i=>i=id∨i=nE) h0 g0 h g
  q:B16 g0 n w E nF nE nN cS cN id0 id h
  gl:h.get id=N8 .ready none E
  fit:fs.Fits (N+73 * i)
  eq:fs0.puts n b b.length 0=fs.puts n b c i
theorem loop16 {h : H} {g : FsG} {fs : Fs} {n : Int} {w : AV} {b : List UInt8} {nF nE nN cS cN id0 id : Nat} {e0 e1 e2 e4 e5 e8 e9 e10 e11 e12 e13 e14 e15 e16 e17 e18 e19 e20 e21 e22 e23 e24 e25 e26 e27 e28 e29 e30 e31 e32 e33 e34 e35 e36 : AV} {k : H → Prop} {N : Nat}
    (q:B16 g n w [e0,e1,e2,.ptr nF 0,e4,e5,.ptr nE 0,.ptr nN 0,e8,e9,e10,e11,e12,e13,e14,e15,e16,e17,e18,e19,e20,e21,e22,e23,e24,e25,e26,e27,e28,e29,e30,e31,e32,e33,e34,e35,e36] nF nE nN cS cN id0 id h) (gl:h.get id=N8 .ready none [e0,e1,e2,.ptr nF 0,e4,e5,.ptr nE 0,.ptr nN 0,e8,e9,e10,e11,e12,e13,e14,e15,e16,e17,e18,e19,e20,e21,e22,e23,e24,e25,e26,e27,e28,e29,e30,e31,e32,e33,e34,e35,e36]) (far:Far g nF nE nN cS cN id0 id) (hlt:id < h.next∧nE < h.next∧nF < h.next∧nN < h.next∧cS < h.next∧cN < h.next∧id0 < h.next) (f:FsAt h g fs) (hw:SlB h w b) (hN:fs.Fits N) (hl:N+73 * (b.length+64)≤Qe)
    (hk:∀ h' g' fs',FsAt h' g' fs'→NxtX (fun i=>i=id∨i=nE) h g h' g'→B16 g n w [e0,e1,e2,.ptr nF 0,e4,e5,.ptr nE 0,.ptr nN 0,e8,e9,e10,e11,e12,e13,e14,e15,e16,e17,e18,e19,e20,e21,e22,e23,e24,e25,e26,e27,e28,e29,e30,e31,e32,e33,e34,e35,e36] nF nE nN cS cN id0 id h' →
      ((fs.puts n b b.length 0=(0,fs')∧h'.get id=N8 .ready none [e0,e1,e2,.ptr nF 0,e4,e5,.ptr nE 0,.ptr nN 0,e8,e9,e10,e11,e12,e13,e14,e15,e16,e17,e18,e19,e20,e21,e22,e23,e24,e25,e26,e27,e28,e29,e30,e31,e32,e33,e34,e35,e36])∨(∃ x,x≠0∧fs.puts n b b.length 0=(x,fs')∧h'.get nE=.cells false 26 [.int .i64 x]∧h'.get id=N8 .done (some .ret) [e0,e1,e2,.ptr nF 0,e4,e5,.ptr nE 0,.ptr nN 0,e8,e9,e10,e11,e12,e13,e14,e15,e16,e17,e18,e19,e20,e21,e22,e23,e24,e25,e26,e27,e28,e29,e30,e31,e32,e33,e34,e35,e36]))→k h') :
    Na (.yield id) (.ptr cS 0) (.ptr cN 0) h k:=by
  have hmost:Qe=140737488355328:=rfl
  show Qea J0 _ _ _ _ h k
  unfold Qea
  refine W0 (fun m v d h'=>∃ i c fs' g',I16 h g fs n w b N [e0,e1,e2,.ptr nF 0,e4,e5,.ptr nE 0,.ptr nN 0,e8,e9,e10,e11,e12,e13,e14,e15,e16,e17,e18,e19,e20,e21,e22,e23,e24,e25,e26,e27,e28,e29,e30,e31,e32,e33,e34,e35,e36] nF nE nN cS cN id0 id m v d h' i c fs' g') (fun m self v d hc inv next=>?_) (n:=b.length+64) (by show _ < 4611686018427387904;omega)
    ⟨0,b.length,fs,g,rfl,by omega,rfl,rfl,by omega,f,⟨rfl,Only.refl _ _,fun _=>.inl⟩,q,gl,hN,rfl⟩
  obtain ⟨i,c,fs',g',I⟩:=inv
  obtain ⟨rfl,hle,rfl,rfl,hc1,fc,nx,qc,glc,fit,eq⟩:=I
  dsimp only
  rw [Q1 qc.gS rfl]
  have hwc:=hw.only nx.o
  rw [hwc.len,Qa,Qg]
  refine QP (fun h0=>?_) fun h0=>?_
  · have hi := ZI.1 h0
    rw [Q9 qc.gC rfl,Q1 qc.gS rfl]
    refine hwc.rest hi fun v11 h11=>?_
    have em:QdZ (.int .i64 (Int.ofNat 64)) (.int .i64 (Int.ofNat (b.length - i)))=some (.int .i64 (Int.ofNat (min 64 (b.length - i)))):=by
      unfold QdZ
      show some (AV.int .i64 (Bool.rec (Int.ofNat 64) (Int.ofNat (b.length - i)) (ltI (Int.ofNat (b.length - i)) (Int.ofNat 64))))=_
      by_cases hm:b.length - i < 64
      · rw [ZI.2 hm,Nat.min_eq_right (by omega)]
      · rw [Vl.2 (by omega),Nat.min_eq_left (by omega)]
    rw [h11,em,Qy,Qa,Q1 qc.gS rfl,Qa]
    have ea:Qd .i64 (Int.add (Int.ofNat i) (Int.ofNat (min 64 (b.length - i))))=Int.ofNat (i+min 64 (b.length - i)):=by
      show Qd .i64 (Int.ofNat (i+min 64 (b.length - i)))=_
      exact Zi (by show _ < 9223372036854775808;omega)
    rw [ea,Qo,Qa,ea,Qo]
    obtain ⟨v20,part1,hv20⟩:=hwc.part (i:=i) (m:=min 64 (b.length - i)) (by omega) (by omega) (kk:=.i64) (k2:=.i64) (k3:=.i64)
    rw [part1]
    rw [spX_some,gY_is]
    rw [take_min] at hv20
    have hpl:((b.drop i).take 64).length≤64:=by simp;omega
    have farc:Far g' nF nE nN cS cN id0 id:=⟨fun j hj cj=>by
      rcases nx.own j cj with c1 | c1
      · exact far.all j hj c1
      · rcases hj with rfl | rfl | rfl | rfl | rfl | rfl | rfl <;> omega,far.i1,far.e1⟩
    have qc':B16 g' n w [e0,e1,e2,.ptr nF 0,e4,e5,.ptr nE 0,.ptr nN 0,e8,e9,e10,e11,e12,e13,e14,e15,e16,e17,e18,e19,e20,e21,e22,e23,e24,e25,e26,e27,e28,e29,e30,e31,e32,e33,e34,e35,e36] nF nE nN cS cN id0 id hc:=⟨by rw [nx.id];exact qc.gF,qc.gN,qc.gE,qc.gS,qc.gC,qc.g0,qc.bE,qc.b0,qc.bI⟩
    obtain ⟨c,rfl⟩:∃ c',c=c'+1:=⟨c - 1,by omega⟩
    have ep:fs'.puts n b (c+1) i=(if (fs'.pend ⟨0,[],[],n,(b.drop i).take 64⟩).1=0 then Fs.puts n b c (i+64) (fs'.pend ⟨0,[],[],n,(b.drop i).take 64⟩).2 else fs'.pend ⟨0,[],[],n,(b.drop i).take 64⟩):=by
      show (if i < b.length then _ else _)=_
      rw [if_pos hi]
    have back:∀ {hx:H},B16 g' n w [e0,e1,e2,.ptr nF 0,e4,e5,.ptr nE 0,.ptr nN 0,e8,e9,e10,e11,e12,e13,e14,e15,e16,e17,e18,e19,e20,e21,e22,e23,e24,e25,e26,e27,e28,e29,e30,e31,e32,e33,e34,e35,e36] nF nE nN cS cN id0 id hx→B16 g n w [e0,e1,e2,.ptr nF 0,e4,e5,.ptr nE 0,.ptr nN 0,e8,e9,e10,e11,e12,e13,e14,e15,e16,e17,e18,e19,e20,e21,e22,e23,e24,e25,e26,e27,e28,e29,e30,e31,e32,e33,e34,e35,e36] nF nE nN cS cN id0 id hx:=fun qx=>⟨by rw [← nx.id];exact qx.gF,qx.gN,qx.gE,qx.gS,qx.gC,qx.g0,qx.bE,qx.b0,qx.bI⟩
    refine round16 qc' glc farc fc hv20 fit (by omega) (fun hd gd fd nd e0 qd gld=>?_) fun hd gd fd nd e0 qd gEd gld=>?_
    · rw [Qm, Qg]
      show br false _ _
      rw [Qr,Q9 qd.gC rfl,Qa]
      have e64:Qd .i64 (Int.add (Int.ofNat i) (Int.ofNat 64))=Int.ofNat (i+64):=by
        show Qd .i64 (Int.ofNat (i+64))=_
        exact Zi (by show _ < 9223372036854775808;omega)
      rw [e64,Qo]
      refine next (b.length+64 - (i+64)) _ _ _ (by omega) ⟨i+64,c,_,gd,rfl,by omega,rfl,rfl,by omega,fd,nx.trans nd,back qd,gld,((fit.pend _).mono (by show N+73 * i+(((b.drop i).take 64).length+72)≤_;omega)),?_⟩
      rw [eq,ep,if_pos e0]
    · rw [Qm, Qg]
      show br true _ _
      rw [QO]
      show k hd
      refine hk hd gd _ fd (nx.trans nd) (back qd) (.inr ⟨_,e0,?_,gEd,gld⟩)
      rw [eq,ep,if_neg e0]
  · have hi := Vl.1 h0
    show k hc
    exact hk hc g' fs' fc nx qc (.inl ⟨by rw [eq,puts_end hi],glc⟩)
end Go.Proofs.YtfgdelkdmdmfgaaDoor
namespace Go.Proofs.YtfgdelkdmdmfgaaDoor
open Go Go.Am
set_option linter.all false
set_option maxRecDepth 100000
theorem p41 {h:H} {v:AV} {k:AV→H→Prop} (hv:ZB v=true) (hk:∀ h',Only noL h h'→h'.next=h.next+2→h'.get h.next=.cells false 39 [v]→h'.get (h.next+1)=.cells false 3 [.int .i64 (Int.ofNat 64)]→k (.func (.func 64) [] [.ptr h.next 0,.ptr (h.next+1) 0]) h'):s44 v (Int.ofNat 64) h k:=by
  show s44G J0 s64 _ _ h k
  unfold s44G
  refine Qp hv (Zg fun h2 o2 n2 g2=>Zg fun h4 o4 n4 g4=>?_)
  rw [Vp,Q9 g4 rfl,Qg]
  show br false _ _
  rw [Qr]
  have:=hk h4 (o2.trans o4 fun _ _=>id) (by omega) (o4.at g2 rfl id) (by rw [← n2];exact g4)
  rw [← n2] at this
  exact this
theorem KK {G:Gam} {id:Nat} {h:H} {k:H→Prop} (g:h.get id=.defd true) (hb:h.base≤id) (hk:∀ h',Only (· = id) h h'→h'.get id=.defd false→k h'):Qu G [.coll id] h k:=by
  unfold Qu
  rw [g]
  show Yy id (.defd false) h fun h=>Qu G [] h k
  refine U3 g rfl (by intros;intro c;cases c) hb fun h' o n g'=>?_
  exact hk h' o g'
theorem it_at {J:Qh} {l:List (Nat × Fun)} {cd:Code→Ks→List AV→List Dfr→H→Prop} {c:AV→AV→AV→H→(H→Prop)→Prop} {i:Nat} {a b:AV} {h:H} {K:AV→H→Prop}:(UR J l [(64,w64 c)] cd).it 64 ([]++(.yield i::[a,b])) h K=c (.yield i) a b h fun h=>K (.tuple []) h:=rfl
theorem endR_none16 {id0 id1:Nat} {N R:List Dfr→H→Prop} {X:Nat→List Dfr→H→Prop} {ds:List Dfr} {h:H} {ps:List Nat} {a b:Code} {e:List AV} (g:h.get id1=.loop .ready none ps a b e):Qe9 id0 id1 N R X ds h=Zr id1 .exhausted none h fun h'=>N (.coll id0::ds) h':=by
  unfold Qe9
  rw [g]
theorem endR_ret16 {id0 id1:Nat} {N R:List Dfr→H→Prop} {X:Nat→List Dfr→H→Prop} {ds:List Dfr} {h:H} {ps:List Nat} {a b:Code} {e:List AV} (g:h.get id1=.loop .done (some .ret) ps a b e):Qe9 id0 id1 N R X ds h=Zr id1 .exhausted (some .ret) h fun h'=>R (.coll id0::ds) h':=by
  unfold Qe9
  rw [g]
theorem rf_at {G:Gam} {f:Nat} {first cap:List AV} {ps:List Nat} {c:Code × Code} {env:List AV} {h:H} {k:Nat→Nat→H→Prop}:rfK G (.func (.func f) first cap) ps c env h k=Qz (.defd true) h fun id0 h=>Qz (.loop .ready none ps c.1 c.2 env) h fun id1 h=>G.it f (first++(.yield id1::cap)) h fun _ h=>k id0 id1 h:=rfl
theorem p16 {h : H} {g : FsG} {fs : Fs} {s b : List UInt8} {v : AV} {k : Int → H → Prop} {N : Nat} (f : FsAt h g fs) (hv : SlB h v b) (hN : fs.Fits N) (hl : N + 73 * (b.length + 64) ≤ Qe) (hn : fs.held.names.length ≤ 1000000)
    (hk:∀ h' g',FsAt h' g' (fs.append s b).2→Nxt h g h' g'→k (fs.append s b).1 h'):s26 (.ptr g.id 0) (Str.of s) v h k:=by
  have fit:fs.Fits Qe:=hN.mono (by omega)
  show s26G J0 s29 s30 N5 s44 s45 Na _ _ _ h k
  unfold s26G
  refine Qp rfl (Zg fun h2 o2 n2 g2=>Zg fun h4 o4 n4 g4=>?_)
  have o04:=o2.trans o4 fun _ _=>id
  have f4:=f.only o04 fun _ _=>id
  rw [Q1 (o4.at g2 rfl id) rfl]
  refine p39 f4 fit fun h6 f6 o6=>?_
  refine Zg fun h10 o10 n10 g10=>?_
  refine WE g10 rfl rfl (by rw [o10.base];exact f6.wf) fun h11 o11 n11 g11=>?_
  have o610:Only noL h6 h11:=o10.trans o11 fun i hi e=>by omega
  have o011:=(o04.trans o6 fun _ _=>id).trans o610 fun _ _=>id
  have f11:=f.only o011 fun _ _=>id
  have gF:h11.get h.next=.cells false 25 [.ptr g.id 0]:=o610.at (o6.at (o4.at g2 rfl id) rfl id) rfl id
  have gE:h11.get h2.next=.cells false 26 [.int .i64 0]:=o610.at (o6.at g4 rfl id) rfl id
  have l6:=o6.next
  have wf:=f.wf
  have bE:h11.base≤h2.next:=by rw [o011.base];omega
  rw [Qg]
  refine QP (fun h0=>?_) fun h0=>?_
  · have h0 : (fs.file s).2 ≠ 0 := Q4.1 (Am.not_true.1 h0)
    have:fs.append s b=((fs.file s).2,fs):=by unfold Fs.append;rw [if_pos h0]
    rw [this] at hk
    refine WE gE rfl rfl bE fun h13 o13 n13 g13=>?_
    rw [Q9 g13 rfl]
    have o:=o011.trans o13 fun i hi e=>by omega
    exact hk h13 g (f.only o fun _ _=>id) (Nxt.pure g o)
  · have h0 : (fs.file s).2 = 0 := Zp.1 (ZT.1 h0)
    rw [hv.len,Q1 gF rfl]
    refine p27 f11 fit hn fun h17 f17 o17=>?_
    have o017:=o011.trans o17 fun _ _=>id
    have gE17:=o17.at gE rfl id
    have gF17:=o17.at gF rfl id
    have gN17:=o17.at g11 rfl id
    have l17:=o17.next
    rw [Qg]
    refine QP (fun h1=>?_) fun h1=>?_
    · have h1 : fs.space < Int.ofNat b.length := WK.1 h1
      have:fs.append s b=(8,fs):=by unfold Fs.append;rw [if_neg (by rw [h0];simp),if_pos h1]
      rw [this] at hk
      refine WE gE17 rfl rfl (by rw [o17.base];exact bE) fun h20 o20 n20 g20=>?_
      rw [Q9 g20 rfl]
      have o:=o017.trans o20 fun i hi e=>by omega
      exact hk h20 g (f.only o fun _ _=>id) (Nxt.pure g o)
    · have h1 : ¬ fs.space < Int.ofNat b.length := Int.not_lt.2 (Ys.1 h1)
      have ea:fs.append s b=fs.puts (fs.file s).1 b b.length 0:=by unfold Fs.append;rw [if_neg (by rw [h0];simp),if_neg h1]
      rw [ea] at hk
      rw [Vp]
      refine p41 hv.one fun h29 o29 n29 gS gC=>?_
      rw [rf_at]
      refine Zg fun h30 o30 n30 g30=>Zg fun h31 o31 n31 g31=>?_
      have o2931:=o30.trans o31 fun _ _=>id
      have o1731:=o29.trans o2931 fun _ _=>id
      have o031:=o017.trans o1731 fun _ _=>id
      have f31:=f.only o031 fun _ _=>id
      have bb:h31.base=h.base:=o031.base
      have lg:∀ j,h.next≤j→¬ Own g j:=fun j hj c=>by have:=Own.live f c;omega
      rw [it_at]
      refine loop16 (e0:=(AV.ptr g.id 0)) (e1:=(AV.str (Str.of s))) (e2:=v) (e4:=AV.junk) (e5:=AV.junk) (e8:=(AV.int .i64 (fs.file s).2)) (e9:=AV.junk) (e10:=AV.junk) (e11:=(AV.tuple [(AV.int .i64 (fs.file s).1),(AV.int .i64 (fs.file s).2)])) (e12:=(AV.ptr g.id 0)) (e13:=(AV.str (Str.of s))) (e14:=(AV.tuple [(AV.int .i64 (fs.file s).1),(AV.int .i64 (fs.file s).2)])) (e15:=(AV.int .i64 (fs.file s).1)) (e16:=(AV.int .i64 (fs.file s).2)) (e17:=(AV.int .i64 (fs.file s).2)) (e18:=(AV.bool (Bool.not (eqI (fs.file s).2 (Int.ofNat 0))))) (e19:=AV.junk) (e20:=v) (e21:=(AV.int .i64 (Int.ofNat b.length))) (e22:=(AV.ptr g.id 0)) (e23:=(AV.int .i64 fs.space)) (e24:=(AV.bool (ltI fs.space (Int.ofNat b.length)))) (e25:=v) (e26:=(AV.func (.func 64) [] [AV.ptr h17.next 0,AV.ptr (h17.next+1) 0])) (e27:=AV.junk) (e28:=AV.junk) (e29:=AV.junk) (e30:=AV.junk) (e31:=AV.junk) (e32:=AV.junk) (e33:=AV.junk) (e34:=AV.junk) (e35:=AV.junk) (e36:=AV.junk) (w:=v) (b:=b) (n:=(fs.file s).1) (nF:=h.next) (nE:=h2.next) (nN:=h6.next) (cS:=h17.next) (cN:=h17.next+1) (id0:=h29.next) (id:=h30.next) (g:=g)
        ⟨o1731.at gF17 rfl id,o1731.at gN17 rfl id,⟨0,o1731.at gE17 rfl id⟩,o2931.at gS rfl id,o2931.at gC rfl id,o31.at g30 rfl id,by omega,by omega,by omega⟩ g31
        ⟨fun j hj=>lg j (by rcases hj with rfl | rfl | rfl | rfl | rfl | rfl | rfl <;> omega),⟨by omega,by omega,by omega,by omega,by omega,by omega⟩,⟨by omega,by omega,by omega,by omega,by omega⟩⟩ (by omega) f31 (hv.only o031) hN hl fun h' g' fs' f' nx q hr=>?_
      have nfin:∀ {L:Nat→Prop} {hz:H},Only L h' hz→(∀ i,L i→i=h2.next∨i=h29.next∨i=h30.next)→FsAt hz g' fs'∧Nxt h g hz g':=fun {L hz} oz hL=>by
        have hx:=nx.o.next
        have ng:∀ i,(i=h2.next∨i=h29.next∨i=h30.next)→¬ Own g' i:=fun i hi c=>by
          rcases nx.own i c with c | c
          · exact lg i (by rcases hi with rfl | rfl | rfl <;> omega) c
          · rcases hi with rfl | rfl | rfl <;> omega
        refine ⟨f'.only oz fun i c l=>ng i (hL i l) c,nx.id,?_,fun i c=>(nx.own i c).imp _root_.id fun c=>by omega⟩
        refine ((o031.imp (L':=Own g) fun _ _ c=>c.elim).trans nx.o fun i hi c=>?_).trans oz fun i hi c=>?_
        · rcases c with c | c | c
          · exact c
          · omega
          · omega
        · rcases hL i c with c | c | c <;> omega
      rcases hr with ⟨ep,gl⟩ | ⟨x,hx,ep,gx,gl⟩
      · rw [ep] at hk
        rw [endR_none16 gl]
        refine V3 gl q.bI fun ha oa na ga=>?_
        obtain ⟨y,gy⟩:=q.gE
        refine WE (oa.at gy rfl fun e=>by omega) rfl rfl (by rw [oa.base];exact q.bE) fun hb ob nb gb=>?_
        refine KK (ob.at (oa.at q.g0 rfl fun e=>by omega) rfl fun e=>by omega) (by rw [ob.base,oa.base];exact q.b0) fun hc oc gc=>?_
        rw [Q9 (oc.at gb rfl fun e=>by omega) rfl]
        have oz:=(oa.imp (L':=fun i=>i=h2.next∨i=h29.next∨i=h30.next) fun _ _ c=>.inr (.inr c)).trans ob fun _ _ c=>.inl c
        have r:=nfin (oz.trans oc fun _ _ c=>.inr (.inl c)) fun _ c=>c
        exact hk hc g' r.1 r.2
      · rw [ep] at hk
        rw [endR_ret16 gl]
        refine V3 gl q.bI fun ha oa na ga=>?_
        refine KK (oa.at q.g0 rfl fun e=>by omega) (by rw [oa.base];exact q.b0) fun hc oc gc=>?_
        rw [Q9 (oc.at (oa.at gx rfl fun e=>by omega) rfl fun e=>by omega) rfl]
        have oz:=(oa.imp (L':=fun i=>i=h2.next∨i=h29.next∨i=h30.next) fun _ _ c=>.inr (.inr c)).trans oc fun _ _ c=>.inr (.inl c)
        have r:=nfin oz fun _ c=>c
        exact hk hc g' r.1 r.2
end Go.Proofs.YtfgdelkdmdmfgaaDoor
