import Derived.Test.YtfgdelkdmdmfgaaDoorKpH
namespace Go.Proofs.YtfgdelkdmdmfgaaDoor
open Go Go.Am
set_option linter.all false
set_option maxRecDepth 100000
theorem Da {h:H} {u:AV} {l:List Wt} (q:RowP wrc 3 h u l) (hl:l≠[]) {i:Nat} (b:Yp u i):∃ m t s cs,h.get i=.cells m t (.str s::cs):=by
  rcases q with ⟨_,e⟩ | ⟨id,c',ex,m,t,r,rfl,q2,q3⟩
  · exact absurd e hl
  obtain rfl:=ZP.1 b
  cases l with
  | nil=>exact absurd rfl hl
  | cons a l=>exact ⟨m,t,_,_,q2⟩
theorem Qb0 {N:Nat} {h:H} {v:AV} {es:List Be} (g:Grow be 62 2 N h v es) {i:Nat} (b:Yp v i):∃ m,h.get i=.cells m 62 (es.flatMap be):=by
  rcases g with ⟨rfl,_⟩ | ⟨id,m,rfl,g2,g3,g4⟩
  · exact absurd b (Vr i)
  · obtain rfl:=ZP.1 b;exact ⟨m,g4⟩
theorem Qc2 {h : H} {g : FsG} {fs : Fs} (f : FsAt h g fs) {u : AV} {l : List Wt} (q : RowP wrc 3 h u l) (hl : l ≠ []) {i : Nat} (o : Own g i) : ¬ Yp u i := by
  intro b
  obtain ⟨m,t,s,cs,e⟩:=Da q hl b
  obtain ⟨w,e1,e2⟩:=f.obj
  rcases o with rfl | rfl | rfl | o
  · rw [e1] at e;injection e with _ _ e;injection e with e _;cases e
  · obtain ⟨es,e3,_⟩:=f.tree.files;rw [e3] at e;cases e
  · rw [f.tree.names] at e;cases e
  · rcases e2 with ⟨_, _, h1⟩ | ⟨hw, id, mv, cs', h1, h2, h3, h4, h5⟩
    · rw [h1] at o;cases o
    · rw [h1] at o; injection o with o; subst o
      rw [h4] at e
      injection e with _ _ e
      cases hfs:fs.wait with
      | nil=>exact hw hfs
      | cons a l' =>
        rw [hfs] at h5
        obtain ⟨v,cs'',e',_⟩:=h5
        rw [e'] at e
        injection e with e _;cases e
theorem Qer {h:H} {g:FsG} {fs:Fs} (f:FsAt h g fs) {N:Nat} {v:AV} {es:List Be} (q:Grow be 62 2 N h v es) {i:Nat} (o:Own g i):¬ Yp v i:=by
  intro b
  obtain ⟨m,e⟩:=Qb0 q b
  obtain ⟨w,e1,e2⟩:=f.obj
  rcases o with rfl | rfl | rfl | o
  · rw [e1] at e;injection e with _ e _;cases e
  · obtain ⟨es,e3,_⟩:=f.tree.files;rw [e3] at e;cases e
  · rw [f.tree.names] at e;cases e
  · rcases e2 with ⟨_, _, h1⟩ | ⟨hw, id, mv, cs', h1, h2, h3, h4, h5⟩
    · rw [h1] at o;cases o
    · rw [h1] at o; injection o with o; subst o
      rw [h4] at e
      injection e with _ e _;cases e
theorem Lb.onl {L:Nat→Prop} {N:Nat} {h h':H} {v:AV} {l:List Bt} (r:Lb N h v l) (ok:∀ b∈l,b.2≠[]) (o:Only L h h') (h1:∀ (u:AV) (m:List Wt),RowP wrc 3 h u m→m≠[]→XZ L u) (h2:∀ es,Grow be 62 2 N h v es→XZ L v):Lb N h' v l:=by
  obtain ⟨es,gr,e⟩:=r
  have n2:=h2 es gr
  refine ⟨es,?_,e.1,fun i i1 i2=>?_⟩
  · rcases gr with gr | ⟨id, m, g1, g2, g3, g4⟩
    · exact .inl gr
    · exact .inr ⟨id,m,g1,g2,Nat.lt_of_lt_of_le g3 o.next,(o.get id g3 (n2 id (by rw [g1];exact ZP.2 rfl))).trans g4⟩
  · obtain ⟨a, b, c⟩ := e.2 i i1 i2
    exact ⟨a,b.onl o (h1 _ _ b (ok _ (List.getElem_mem i2))),c⟩
theorem wal_wrc {h:H} {W:Nat} {g:FsG} {seq sg:Nat} {br:Bool} (w:WalAt h W g seq sg br) {u:AV} {l:List Wt} (q:RowP wrc 3 h u l) (hl:l≠[]):¬ Yp u W:=by
  intro b
  obtain ⟨m,t,s,cs,e⟩:=Da q hl b
  rw [w.at_] at e;injection e with _ _ e;injection e with e _;cases e
theorem wal_be {h:H} {W:Nat} {g:FsG} {seq sg:Nat} {br:Bool} (w:WalAt h W g seq sg br) {N:Nat} {v:AV} {es:List Be} (q:Grow be 62 2 N h v es):¬ Yp v W:=by
  intro b
  obtain ⟨m,e⟩:=Qb0 q b
  rw [w.at_] at e;injection e with _ e _;cases e
theorem Lb.nxt {N:Nat} {h h':H} {v:AV} {l:List Bt} (r:Lb N h v l) (ok:∀ b∈l,b.2≠[]) {g g':FsG} {fs:Fs} (f:FsAt h g fs) (n:Nxt h g h' g'):Lb N h' v l :=
  r.onl ok n.o (fun u m q hm i hi o=>Qc2 f q hm o hi) fun es gr i hi o=>Qer f gr o hi
theorem Lb.nxtW {N:Nat} {h h':H} {v:AV} {l:List Bt} (r:Lb N h v l) (ok:∀ b∈l,b.2≠[]) {g g':FsG} {fs:Fs} (f:FsAt h g fs) {W seq sg:Nat} {br:Bool} (w:WalAt h W g seq sg br) (n:NxtX (isW W) h g h' g'):Lb N h' v l :=
  r.onl ok n.o (fun u m q hm i hi o=>o.elim (fun o=>Qc2 f q hm o hi) fun o=>wal_wrc w q hm (o ▸ hi)) fun es gr i hi o=>o.elim (fun o=>Qer f gr o hi) fun o=>wal_be w gr (o ▸ hi)
structure Sg (cs:Cs) (bs:List (List Bt)):Prop where
  len:bs.length=cs.length
  dat:∀ (i:Nat) (h1:i < cs.length) (h2:i < bs.length),∃ t,cs[i].2=ZC bs[i]++t∧Qfm t
  ok:∀ b∈bs.flatten,BOk b
  seq:∀ (i:Nat) (h1:i < bs.flatten.length),bs.flatten[i].1=i+1
  few:bs.flatten.length≤1000
theorem NT {M:Nat} (hM:1048588≤M):∀ (ws:List Bt),(∀ b∈ws,BOk b)→(ZC ws).length≤ws.length * M
  | [],_=>Nat.zero_le _
  | b :: ws, h => by
    have ih:=NT hM ws (fun x hx=>h x (List.mem_cons_of_mem _ hx))
    have hb:=(h b List.mem_cons_self).2.2.2
    have e:ZC (b::ws)=Qs (YK b.1 b.2)++ZC ws:=rfl
    rw [e,List.length_append,Zd,List.length_cons,Nat.add_mul]
    omega
theorem dataB_len {n:Nat} (ws:List Bt) (h:∀ b∈ws,BOk b) (hn:ws.length≤n):(ZC ws).length≤n * 1048588 :=
  Nat.le_trans (NT (Nat.le_refl _) ws h) (Nat.mul_le_mul_right _ hn)
theorem Qfm.len {t:List UInt8} (h:Qfm t):t.length≤1048588:=by
  rcases h with rfl | ⟨r,_,h2,h3⟩
  · exact Nat.zero_le _
  · rw [Zd] at h2;omega
theorem nonempty_of {b:Bt} (h:BOk b):b.2≠[]:=fun e=>by have:=h.2.2.1;rw [e] at this;exact absurd this (by decide)
theorem Sg.take {cs:Cs} {bs:List (List Bt)} (s:Sg cs bs) {i:Nat} (hi:i < bs.length):(bs.take (i+1)).flatten=(bs.take i).flatten++bs[i]:=by
  rw [List.take_succ_eq_append_getElem hi,List.flatten_append];simp
theorem flatten_take {bs:List (List Bt)} (i:Nat):bs.flatten=(bs.take i).flatten++(bs.drop i).flatten:=by rw [← List.flatten_append,List.take_append_drop]
end Go.Proofs.YtfgdelkdmdmfgaaDoor
namespace Go.Proofs.YtfgdelkdmdmfgaaDoor
open Go Go.Am
set_option linter.all false
set_option maxRecDepth 100000
noncomputable abbrev T6:AV→Int→Int→H→(AV→AV→Int→H→Prop)→Prop:=s6G J0 T17 (Qak J0 s10 T26) (Nc J0 s10 T26 T33 T34) T20
section
variable {K3:AV→AV→Int→H→Prop}
set_option maxHeartbeats 1000000 in
theorem t6 {h : H} {g : FsG} {fs : Fs} {N c : Nat} {cs : Cs} {bs : List (List Bt)} (f : FsAt h g fs) (o : LgOn cs fs) (i : Inv fs N c) (hN : N + 72 ≤ Qe) (hc : c ≤ Qe) (few : cs.length + 1 < 99) (hf : fs.fused = false) (s : Sg cs bs)
    (hk:∀ h' g' fs' x W v,FsAt h' g' fs'→WalAt h' W g' bs.flatten.length (cs.length+1) false→LgOn (cs++[(x,[])]) fs'→Inv fs' (N+73) (c+1)→Lb h.next h' v bs.flatten→Nxt h g h' g'→fs'.fused=false→h.next≤W→K3 (.ptr W 0) v (Int.ofNat 0) h'):T6 (.ptr g.id 0) (Int.ofNat 1) (Int.ofNat 0) h K3:=by
  have hm:Qe=140737488355328:=rfl
  show s6G J0 T17 (Qak J0 s10 T26) (Nc J0 s10 T26 T33 T34) T20 (.ptr g.id 0) (Int.ofNat 1) (Int.ofNat 0) h K3
  unfold s6G
  have fit:fs.Fits Qe:=i.fit.mono (by omega)
  refine t17 f fit o.ha fun ha fa oa=>?_
  rw [o.on]
  have z0:Bool.not (eqI (Int.ofNat 0) (Int.ofNat 0))=false:=rfl
  have z1:ltI (Int.ofNat 1) (Int.ofNat 1)=false:=rfl
  have z2:ltI (Int.ofNat 999999) (Int.ofNat 1)=false:=rfl
  have z3:ltI (Int.ofNat 0) (Int.ofNat 0)=false:=rfl
  have z4:ltI (Int.ofNat 1073741824) (Int.ofNat 0)=false:=rfl
  rw [if_neg (by simp),Qg,z0,Qr,Qg,z1];(try dsimp only)
  rw [Qq];(try dsimp only);rw [Qr];(try dsimp only);rw [Qq];(try dsimp only);rw [Qr];(try dsimp only);rw [Qa,Qg,z2];(try dsimp only);rw [QF,Qm];(try dsimp only)
  rw [Qq];(try dsimp only);rw [Qr];(try dsimp only);rw [Qq];(try dsimp only);rw [Qr];(try dsimp only);rw [Qa,Qg,z3];(try dsimp only);rw [QF,Qm];(try dsimp only)
  rw [Qq];(try dsimp only);rw [Qr];(try dsimp only);rw [Qq];(try dsimp only);rw [Qr];(try dsimp only);rw [Qa,Qg,z4];(try dsimp only);rw [QF,Qm];(try dsimp only)
  rw [Qr];(try dsimp only)
  have na:=oa.next
  refine YA cs.length (fun i x h'=>∃ w,x=(.ptr g.id 0,.int .i64 (Int.ofNat 0),w,.int .i64 (Int.ofNat (i+1)),())∧FsAt h' g fs∧Lb ha.next h' w (bs.take i).flatten∧Only (fun i=>ha.next≤i) ha h') (by have:=o.lg.few;omega) ?_ ?_ ⟨.nils,rfl,fa,Lb.nil _ _,Only.refl _ _⟩
  · rintro j x h1 self hj ⟨w, rfl, f1, r1, o1⟩ hs
    dsimp only
    have hjb:j < bs.length:=by rw [s.len];exact hj
    have b1:=o1.base
    have n1:=o1.next
    rw [Qa]
    have c1:1≤j+1:=by omega
    have c2:j+1 < 100:=by omega
    refine t18 (n:=j+1) f1 fit o c1 c2 fun h2 f2 o2=>?_
    have e18:decide (j+1≤cs.length)=true:=decide_eq_true (by omega)
    rw [e18,QO,Qa]
    obtain ⟨t,d1,d2⟩:=s.dat j hj hjb
    have e1:=flatten_take (bs:=bs) (j+1)
    rw [s.take hjb] at e1
    have few2:((bs.take j).flatten++bs[j]).length≤1000:=by
      have:=s.few;rw [e1,List.length_append] at this;omega
    have okj:∀ b∈bs[j],BOk b:=fun b hb=>s.ok b (by rw [e1];simp [hb])
    have dl:=dataB_len (n:=1000) bs[j] okj (by rw [List.length_append] at few2;omega)
    have tl:=d2.len
    refine t19 (n:=j+1) (l:=(bs.take j).flatten) (ws:=bs[j]) (t:=t) (N:=ha.next) f2 fit o (by omega) (by omega) (by simpa using d1) d2 okj (fun i hi=>?_) (by rw [List.length_append];omega) few2 (by have:=o2.base;have:=fa.wf;omega) (by have:=o2.next;omega) (fun i hi=>Own.live fa hi) (r1.low (Vh o2)) fun v' h3 f3 r3 o3=>?_
    · have := s.seq i (by rw [e1, List.length_append]; omega)
      rw [List.getElem_of_eq e1,List.getElem_append_left hi] at this
      exact this
    · rw [Qg, z0, Qr, Qa, Qo, ZE, Yg _ (by omega)]
      refine hs _ _ ⟨v',rfl,f3,by rw [s.take hjb];exact r3,(o1.trans (o2.imp fun _ _ c=>c.elim) fun _ _ c=>c).trans o3 fun _ _ c=>c⟩
  · rintro x h1 self ⟨w, rfl, f1, r1, o1⟩
    dsimp only
    have b1:=o1.base
    have n1:=o1.next
    have few0:=o.lg.few
    rw [Qa]
    have c1:1≤cs.length+1:=by omega
    have c2:cs.length+1 < 100:=by omega
    refine t18 (n:=cs.length+1) f1 fit o c1 c2 fun h2 f2 o2=>?_
    have e18:decide (cs.length+1≤cs.length)=false:=decide_eq_false (by omega)
    rw [e18,Qr]
    have r2:=r1.low (Vh o2)
    rw [show bs.take cs.length=bs from List.take_of_length_le (by rw [s.len];exact Nat.le_refl _)] at r2
    obtain ⟨es,gw,ew⟩:=r2
    have LK:=gw.row.len
    have el:es.length=bs.flatten.length:=ew.1
    have fl:=s.few
    have O2:Only (fun i=>h.next≤i) h h2:=((oa.imp fun _ _ c=>c.elim).trans (o1.imp fun i _ (c:ha.next≤i)=>(by omega:h.next≤i)) fun _ _ c=>c).trans (o2.imp fun _ _ c=>c.elim) fun _ _ c=>c
    have ne2:∀ b∈bs.flatten,b.2≠[]:=fun b hb=>nonempty_of (s.ok b hb)
    have R2:Lb h.next h2 w bs.flatten:=⟨es,by
      rcases gw with gw | ⟨id,m,g1,g2,g3,g4⟩
      · exact .inl gw
      · exact .inr ⟨id,m,g1,by omega,g3,g4⟩,ew⟩
    have ok:∀ (p:Nat) (K:Prop),QQ (.ptr p 0) K=K:=fun p K=>rfl
    have Q0:(Bool.not (eqI (Int.ofNat 0) (Int.ofNat 0)))=false:=rfl
    have wb:∀ i,Yp w i→ha.next≤i∧i < h2.next:=fun i hi=>DQ gw hi
    have b2:=o2.base
    have n2:=o2.next
    have baa:=oa.base
    have wfa:=fa.wf
    have few1:es.length≤1000:=by omega
    have O3:Nxt h g h2 g:=⟨rfl,(oa.trans (o1.imp fun i hi (c:ha.next≤i)=>(by omega:False)) fun _ _ c=>c).trans o2 (fun _ _ c=>c) |>.imp fun _ _ c=>c.elim,fun _=>.inl⟩
    have w2:∀ h',(h'.get h2.next=.cells false 64 [.ptr g.id 0,.int .i64 (Int.ofNat 0),.int .i64 (Int.ofNat cs.length),.bool false,.bool true])→Only noL h2 h'→WalAt h' h2.next g 0 cs.length false:=fun h' e oo=>⟨e,by rw [oo.base];omega,fun c=>by have:=Own.live f2 c;omega⟩
    have eN:Qd .i64 (Int.sub (Int.ofNat (cs.length+1)) (Int.ofNat 1))=Int.ofNat cs.length:=by rw [Kt _ _ (by omega),Yg _ (by omega)];congr 1
    have z3':(Bool.not (eqI (Int.ofNat 0) (Int.ofNat 0)))=false:=rfl
    have X2:∀ hp h3 g3,Only noL h2 hp→NxtX (isW h2.next) hp g h3 g3→Nxt h g h3 g3:=fun hp h3 g3 op e=>⟨e.id,(O3.o.trans op fun _ _ c=>c.elim).trans e.o fun i hi c=>c.elim (fun c=>c) fun c=>by have:=O2.next;have:i=h2.next:=c;omega,fun i c=>(e.own i c).imp id fun c=>by have:=O2.next;have:=op.next;omega⟩
    have R2F:∀ hp h3 g3,Only noL h2 hp→hp.get h2.next=.cells false 64 [.ptr g.id 0,.int .i64 (Int.ofNat 0),.int .i64 (Int.ofNat cs.length),.bool false,.bool true]→NxtX (isW h2.next) hp g h3 g3→Lb h.next h3 w bs.flatten:=fun hp h3 g3 op gp e=>(R2.nxt ne2 f2 (Nxt.pure g op)).nxtW ne2 (f2.only op fun _ _=>id) (w2 hp gp op) e
    by_cases hz:es.length=0
    · have y1 : ltI (Int.ofNat 0) (Int.ofNat es.length) = false := Za (by omega)
      rw [LK,y1,Qg];(try dsimp only)
      iterate 8 (rw [Qq];(try dsimp only);rw [Qr];(try dsimp only))
      iterate 8 (rw [Qq];(try dsimp only);rw [JG];(try dsimp only))
      rw [Qq];(try dsimp only)
      rw [Qr];(try dsimp only)
      rw [QF,Qm,Qr,Qa,Qo,eN]
      refine Qp rfl ?_
      rw [Qa]
      refine Zg fun hp op np gp=>?_
      have fp:=f2.only op fun _ _=>id
      refine t20 fp o i hN hc few (w2 hp gp op) (fun h3 g3 fs3 x a3 b3 c3 d3 e3 ff3=>?_) fun h3 g3 fs3 x a3 b3 c3 d3 e3 ff3=>?_
      · have X3 := X2 hp h3 g3 op e3
        have RF:=R2F hp h3 g3 op gp e3
        obtain ⟨esf,gwf,ewf⟩:=id RF
        have LF:=gwf.row.len
        have elf:esf.length=0:=by have:esf.length=bs.flatten.length:=ewf.1;omega
        rw [z3',Qg,Qr,Vp,LK,y1,Qg,Qr]
        refine YA 0 (fun _ x h'=>x=(.int .i64 (Int.ofNat 0),w,.ptr h2.next 0,())∧h'=h3) (by omega) (fun _ _ _ _ hi=>absurd hi (Nat.not_lt_zero _)) ?_ ⟨rfl,rfl⟩
        rintro _ _ self ⟨rfl,rfl⟩
        have yF:ltI (Int.ofNat 0) (Int.ofNat esf.length)=false:=Za (by omega)
        simp only [↓LF,yF,↓Qg,↓Qq,↓Qr,↓QF]
        refine hk _ _ _ x _ _ a3 ?_ c3 d3 RF X3 (ff3.trans hf) O2.next
        rw [show bs.flatten.length=0 by omega];exact b3
      · rw [hf] at ff3;cases ff3
    · have y1 : ltI (Int.ofNat 0) (Int.ofNat es.length) = true := ZA (by omega)
      obtain ⟨pid,po,p1,p2,p3⟩:=Qao X0 gw.row (i:=0) (by omega)
      obtain ⟨qid,qo,q1,q2,q3⟩:=Qao X0 gw.row (i:=es.length - 1) (by omega)
      have I1:∀ k,ixK 2 w (.int .i64 (Int.ofNat 0)) k=k (.ptr pid po):=p1 _
      have I2:∀ k,ixK 2 w (.int .i64 (Int.ofNat (es.length - 1))) k=k (.ptr qid qo):=q1 _
      have e0:(es[0]'(by omega)).1=1:=by
        rw [(ew.2 0 (by omega) (by omega)).1];exact s.seq 0 (by omega)
      have e9:(es[es.length - 1]'(by omega)).1=es.length:=by
        rw [(ew.2 (es.length - 1) (by omega) (by omega)).1,s.seq _ (by omega)];omega
      have S1:∀ (h':H) k,(∀ id,id < h2.next→h'.get id=h2.get id)→ldI .i64 (.ptr pid (Nat.add po 0)) h' k=k (Int.ofNat 1):=fun h' k hh=>by
        have:=p2 h' 0 _ k hh (by omega) rfl
        rw [e0] at this;exact this
      have S2:∀ (h':H) k,(∀ id,id < h2.next→h'.get id=h2.get id)→ldI .i64 (.ptr qid (Nat.add qo 0)) h' k=k (Int.ofNat es.length):=fun h' k hh=>by
        have:=q2 h' 0 _ k hh (by omega) rfl
        rw [e9] at this;exact this
      have S1':=fun k=>S1 h2 k fun _ _=>rfl
      have S2':=fun k=>S2 h2 k fun _ _=>rfl
      have y2:Qd .i64 (Int.sub (Int.ofNat es.length) (Int.ofNat 1))=Int.ofNat (es.length - 1):=by rw [Kt _ _ (by omega),Yg _ (by omega)]
      have y3:Qd .i64 (Int.add (Int.ofNat 0) (Int.ofNat 1))=Int.ofNat 1:=rfl
      have y4:ltI (Int.ofNat 1) (Int.ofNat 1)=false:=rfl
      have y5:ltI (Int.ofNat es.length) (Int.ofNat 0)=false:=Za (by omega)
      rw [LK,y1,Qg];(try dsimp only)
      rw [Qq];(try dsimp only);rw [QO];(try dsimp only)
      rw [Qq];(try dsimp only);rw [QO,I1];(try dsimp only)
      rw [Qq];(try dsimp only);rw [QO,Qw];(try dsimp only)
      rw [Qq];(try dsimp only);rw [QO,S1'];(try dsimp only)
      rw [Qq];(try dsimp only);rw [QO];(try dsimp only)
      rw [Qq];(try dsimp only);rw [QO,Qa,Qo,y3];(try dsimp only)
      rw [Qq];(try dsimp only);rw [QO,Qa,Qa,y4,Qg];(try dsimp only)
      rw [Qq];(try dsimp only);rw [QO];(try dsimp only)
      rw [Qq];(try dsimp only);rw [Zc];(try dsimp only);rw [Qr];(try dsimp only)
      rw [Qq];(try dsimp only);rw [Zc];(try dsimp only);rw [Qr];(try dsimp only)
      rw [Qq];(try dsimp only);rw [Zc];(try dsimp only);rw [Qr,Qa,Qo,y2];(try dsimp only)
      rw [Qq];(try dsimp only);rw [Zc];(try dsimp only);rw [Qr,I2];(try dsimp only)
      rw [Qq];(try dsimp only);rw [Zc];(try dsimp only);rw [Qr,Qw];(try dsimp only)
      rw [Qq];(try dsimp only);rw [Zc];(try dsimp only);rw [Qr,S2'];(try dsimp only)
      rw [Qq];(try dsimp only);rw [Zc];(try dsimp only);rw [Qr];(try dsimp only)
      rw [Qq];(try dsimp only);rw [Zc];(try dsimp only);rw [Qr,Qa,Qa,y5,Qg];(try dsimp only)
      rw [Qq];(try dsimp only);rw [QO,QF,Qm];(try dsimp only)
      rw [QS,Qm,Qr,Qa,Qo,eN]
      refine Qp rfl ?_
      rw [Qa]
      refine Zg fun hp op np gp=>?_
      have fp:=f2.only op fun _ _=>id
      refine t20 fp o i hN hc few (w2 hp gp op) (fun h3 g3 fs3 x a3 b3 c3 d3 e3 ff3=>?_) fun h3 g3 fs3 x a3 b3 c3 d3 e3 ff3=>?_
      · rw [z3', Qg, Qr, Vp, LK, y1, Qg, QO, Qo, y2, I2, Qw]
        obtain ⟨esf,gwf,ewf⟩:=R2F hp h3 g3 op gp e3
        have elf:esf.length=es.length:=by have:esf.length=bs.flatten.length:=ewf.1;omega
        obtain ⟨qid',qo',q1',q2',q3'⟩:=Qao X0 gwf.row (i:=es.length - 1) (by omega)
        have EQ:(.ptr qid' qo':AV)=.ptr qid qo:=by
          have a:=q1' .i64 (fun v=>v=.ptr qid qo)
          rw [I2] at a;rw [← a]
        injection EQ with E1 E2
        subst E1;subst E2
        have S3:∀ k,ldI .i64 (.ptr qid' (Nat.add qo' 0)) h3 k=k (Int.ofNat es.length):=fun k=>by
          have:=q2' h3 0 _ k (fun _ _=>rfl) (by omega) rfl
          rw [(ewf.2 (es.length - 1) (by omega) (by omega)).1,s.seq _ (by omega),show es.length - 1+1=es.length by omega] at this
          exact this
        rw [S3]
        refine WE b3.at_ rfl rfl b3.bs fun h4 o4 n4 g4=>?_
        have w4:WalAt h4 h2.next g3 es.length (cs.length+1) false:=⟨g4,by rw [o4.base];exact b3.bs,b3.not⟩
        have e4:NxtX (isW h2.next) hp g h4 g3:=e3.trans (NxtX.put g3 o4 fun _ c=>c)
        have RF:=R2F hp h4 g3 op gp e4
        have X4:=X2 hp h4 g3 op e4
        have f4:=FsAt.putW a3 b3.not o4
        clear gwf ewf elf q1' q2' q3' S3
        obtain ⟨esf,gwf,ewf⟩:=id RF
        have elf:esf.length=es.length:=by have:esf.length=bs.flatten.length:=ewf.1;omega
        have LF:=gwf.row.len
        obtain ⟨rid,ro,r1',r2',r3'⟩:=Qao X0 gwf.row (i:=0) (by omega)
        have IF:∀ k,ixK 2 w (.int .i64 (Int.ofNat 0)) k=k (.ptr rid ro):=r1' _
        have SF:∀ k,ldI .i64 (.ptr rid (Nat.add ro 0)) h4 k=k (Int.ofNat 1):=fun k=>by
          have:=r2' h4 0 _ k (fun _ _=>rfl) (by omega) rfl
          rw [(ewf.2 0 (by omega) (by omega)).1,s.seq 0 (by omega)] at this
          exact this
        refine YA 0 (fun _ x h'=>x=(.int .i64 (Int.ofNat 0),w,.ptr h2.next 0,())∧h'=h4) (by omega) (fun _ _ _ _ hi=>absurd hi (Nat.not_lt_zero _)) ?_ ⟨rfl,rfl⟩
        rintro _ _ self ⟨rfl,rfl⟩
        have yF:ltI (Int.ofNat 0) (Int.ofNat esf.length)=true:=ZA (by omega)
        have y9:Bool.not (ltI (Int.ofNat 0) (Int.ofNat 1))=false:=rfl
        simp only [↓LF,yF,y9,↓Qg,↓IF,↓SF,↓Qw,↓Qq,↓QO,↓Qr,↓Qa,↓QS,↓QF,↓Qm]
        refine hk _ _ _ x _ _ f4 ?_ c3 d3 RF X4 (ff3.trans hf) O2.next
        rw [← el];exact w4
      · rw [hf] at ff3;cases ff3
end
end Go.Proofs.YtfgdelkdmdmfgaaDoor
