import Derived.Test.YtbcfpeelkaoljaaDoorKpM
import Derived.Test.YtbcfpeelkaoljaaDoorWkLaw
namespace Go.Proofs.YtbcfpeelkaoljaaDoor
open Go Go.Am
set_option linter.all false
set_option maxRecDepth 100000
noncomputable abbrev T12:AV→AV→H→(Bool→H→Prop)→Prop:=QeD J0 (Qcl J0 (Qbk J0))
noncomputable abbrev T13:AV→AV→H→(Bool→H→Prop)→Prop:=Qcl J0 (Qbk J0)
noncomputable abbrev T7:AV→H→(Bool→H→Prop)→Prop:=s7G J0
section
variable {KB:Bool→H→Prop}
set_option maxHeartbeats 1000000 in
theorem t3 (Q : H → Prop) {a0 : AV} {L : List Li} {h : H} (r : RowP lic 5 h a0 L) (rl : ∀ e ∈ L, RowP wrc 3 h e.1 e.2.1 ∧ e.2.2.2.1 < 9223372036854775808 ∧ e.2.1.length ≤ 140737488351232) (hb : h.base ≤ h.next) (hl : L.length ≤ 140737488351232) (hQ : Q h) (hk : ∀ h', KB true h') :
    s3G J0 (Qbx Q) s5 T6 T7 s8 T9 T10 Qan T12 T13 a0 h KB:=by
  have hm:Qe=140737488355328:=rfl
  unfold s3G
  refine ⟨rfl,hQ,?_⟩
  (try dsimp only)
  rw [Ql,Qi,Bool.not_true,Qq,r.len,Qi,ZC]
  by_cases h30:30 < L.length
  · rw [decide_eq_true h30,QU];exact hk _
  rw [decide_eq_false h30,Qq]
  refine p10 hb (by decide) (by decide) fun h7 f7 o7=>?_
  refine t6 (g:=⟨h.next+2,h.next,h.next+1,none⟩) (cs:=[]) (bs:=[]) f7 Lg.new (Fs.new_inv _) (by decide) (by decide) (by decide) rfl Sg.nil fun h10 g10 fs10 y10 W10 v10 f10 w10 o10 i10 lb10 n10 ff10 hW10=>?_
  have z0:Bool.not (eqI (0:Int) (Int.ofNat 0))=false:=rfl
  have z00:Bool.not (eqI (Int.ofNat 0) (Int.ofNat 0))=false:=rfl
  rw [Qi,z0]
  ((rw [Qs];(try dsimp only);rw [Qq];(try dsimp only)))
  ((rw [Qs];(try dsimp only);rw [Qq];(try dsimp only)))
  rw [Qd,Qi,z00,QA,Ql,Qq]
  refine Y2 L.length (fun i x h'=>∃ W v cs y d sure g fs,x=(a0,.ptr g.id 0,.ptr W 0,v,.int .i64 (Int.ofNat i),())∧LS h i h' W v cs y d sure g fs) (by omega) ?_ ?_ ⟨W10,.nils,[],y10,[],[],g10,fs10,?_,?_⟩
  · rintro i x h26 self hi ⟨W, v, cs, y, d, sure, g, fs, rfl, S⟩ hs
    (try dsimp only)
    have hi30:i≤29:=by omega
    have n26:=S.c.on.next
    have b26:=S.c.on.base
    rw [r.len,Qd,Qi,ZP hi,QU]
    refine QaA (fun x d' h'=>d'=[]∧∃ W' v' cs' y' d'' sure' g' fs',x=(a0,.ptr g'.id 0,.ptr W' 0,v',.int .i64 (Int.ofNat i),())∧LS h (i+1) h' W' v' cs' y' d'' sure' g' fs') ?_ fun j34 H34=>?_
    · rintro x d' h' ⟨rfl, W', v', cs', y', d'', sure', g', fs', rfl, S'⟩
      (try dsimp only)
      rw [Qd,Qx,Jh i (by omega)]
      exact hs _ _ ⟨W',v',cs',y',d'',sure',g',fs',rfl,S'⟩
    have r26:RowP lic 5 h26 a0 L:=r.onl S.c.on fun j hj c=>by have:=r.blk hj;omega
    obtain ⟨pid,po,p1,p2,_,_⟩:=RowP.rd Qdw r26 hi
    have re:=rl L[i] (List.getElem_mem hi)
    rw [p1,p2 h26 _ (fun _ _=>rfl)]
    generalize L[i]=e at re ⊢
    obtain ⟨u,l,ro,n,K,T⟩:=e
    obtain ⟨ru,hn63,hlen⟩:=re
    dsimp only at ru hn63 hlen
    have one:Zv u=true:=Qbo ru
    have ru':∀ h',Only (fun i=>h.next≤i) h h'→RowP wrc 3 h' u l:=fun h' o=>ru.onl o fun j hj c=>by have:=ru.blk hj;omega
    refine Q8 fun h40 o40 n40 g40=>?_
    refine KH g40 rfl (by
      show (Bool.rec (motive:=fun _=>Bool) false (Bool.rec (motive:=fun _=>Bool) false (Bool.rec (motive:=fun _=>Bool) false (Bool.rec (motive:=fun _=>Bool) false (Bool.rec (motive:=fun _=>Bool) false true true) true) true) true) (Zv u):Bool)=true
      rw [one]) rfl (by rw [o40.base];omega) fun h41 o41 n41 g41=>?_
    have gX:h41.get h26.next=.cells false 34 [u,.bool ro,.int .i64 n,.int .i64 K,.int .i64 T]:=g41
    have O41:Only noL h26 h41:=o40.trans o41 fun j hj e=>by omega
    have C41:=S.c.pure O41
    have L41:Qed h41 W g cs y d sure fs:=⟨S.l.w.nxt (Nxt.pure g O41),S.l.o,S.l.fu⟩
    have hX:h.next≤h26.next:=n26
    generalize h26.next=X at gX hX
    have X0:∀ h',h'.get X=.cells false 34 [u,.bool ro,.int .i64 n,.int .i64 K,.int .i64 T]→∀ k,ldV (.ptr X 0) h' k=k u:=fun h' e k=>QZ e rfl k
    have XA:∀ h',h'.get X=.cells false 34 [u,.bool ro,.int .i64 n,.int .i64 K,.int .i64 T]→∀ k,ldV (.ptr X (Nat.add 0 0)) h' k=k u:=fun h' e k=>QZ e rfl k
    have XB:∀ h',h'.get X=.cells false 34 [u,.bool ro,.int .i64 n,.int .i64 K,.int .i64 T]→∀ k,ldB (.ptr X (Nat.add 0 1)) h' k=k ro:=fun h' e k=>YR e rfl k
    have X2:∀ h',h'.get X=.cells false 34 [u,.bool ro,.int .i64 n,.int .i64 K,.int .i64 T]→∀ k,ldI .i64 (.ptr X 2) h' k=k n:=fun h' e k=>Q1 e rfl k
    have X3:∀ h',h'.get X=.cells false 34 [u,.bool ro,.int .i64 n,.int .i64 K,.int .i64 T]→∀ k,ldI .i64 (.ptr X 3) h' k=k K:=fun h' e k=>Q1 e rfl k
    have X4:∀ h',h'.get X=.cells false 34 [u,.bool ro,.int .i64 n,.int .i64 K,.int .i64 T]→∀ k,ldI .i64 (.ptr X 4) h' k=k T:=fun h' e k=>Q1 e rfl k
    have XN:∀ h',h'.get X=.cells false 34 [u,.bool ro,.int .i64 n,.int .i64 K,.int .i64 T]→∀ k,ldI .i64 (.ptr X (Nat.add 0 2)) h' k=k n:=fun h' e k=>Q1 e rfl k
    have XK:∀ h',h'.get X=.cells false 34 [u,.bool ro,.int .i64 n,.int .i64 K,.int .i64 T]→∀ k,ldI .i64 (.ptr X (Nat.add 0 3)) h' k=k K:=fun h' e k=>Q1 e rfl k
    have XT:∀ h',h'.get X=.cells false 34 [u,.bool ro,.int .i64 n,.int .i64 K,.int .i64 T]→∀ k,ldI .i64 (.ptr X (Nat.add 0 4)) h' k=k T:=fun h' e k=>Q1 e rfl k
    rw [X0 h41 gX,ru.len,Qi,ZC]
    by_cases h70:70 < l.length
    · rw [decide_eq_true h70]
      simp only [↓Qs,↓QU,↓QQ,↓Ql]
      exact hk _
    rw [decide_eq_false h70]
    ((rw [Qs];(try dsimp only);rw [Qq];(try dsimp only)))
    rw [Qs];(try dsimp only);rw [Qq,X0 h41 gX];(try dsimp only)
    ((rw [Qs];(try dsimp only);rw [Qq];(try dsimp only)))
    refine t7 (ru' h41 C41.on) hlen fun b=>?_
    (try dsimp only)
    cases b with
    | false =>
      simp only [↓Qs,↓QU,↓Qq,↓Qi,↓Bool.not_false,↓QQ,↓QA,↓Ql]
      exact hk _
    | true=>
    ((rw [Qs];(try dsimp only);rw [Qq];(try dsimp only)))
    rw [Ql,Qi,Bool.not_true];(try dsimp only)
    rw [QA,Ql];(try dsimp only)
    ((rw [Qs];(try dsimp only);rw [Qq];(try dsimp only)))
    rw [Qs];(try dsimp only);rw [Qq,X3 h41 gX];(try dsimp only)
    rw [Qs];(try dsimp only);rw [Qq,Qd,Qi];(try dsimp only)
    by_cases hK:K < 0
    · rw [show ltI K (Int.ofNat 0) = true from Yj.2 hK]
      simp only [↓Qs,↓QU,↓Qq,↓Qi,↓QQ,↓QA,↓Ql]
      exact hk _
    rw [show ltI K (Int.ofNat 0)=false from ZJ.2 (Int.not_lt.1 hK),QA,Ql];(try dsimp only)
    ((rw [Qs];(try dsimp only);rw [Qq];(try dsimp only)))
    rw [Qs];(try dsimp only);rw [Qq,X4 h41 gX];(try dsimp only)
    rw [Qs];(try dsimp only);rw [Qq,Qd,Qi];(try dsimp only)
    by_cases hT:T < 0
    · rw [show ltI T (Int.ofNat 0) = true from Yj.2 hT]
      simp only [↓Qs,↓QU,↓Qq,↓Qi,↓QQ,↓QA,↓Ql]
      exact hk _
    rw [show ltI T (Int.ofNat 0)=false from ZJ.2 (Int.not_lt.1 hT),QA,Ql];(try dsimp only)
    rw [Qq]
    refine QaA (fun x d' h'=>d'=[]∧∃ fs1 g1,x=(a0,.ptr g1.id 0,.ptr W 0,v,.int .i64 (Int.ofNat i),.ptr X 0,())∧C0 h h' g1 fs1 W v sure (73+29221900 * i) (1+2 * i)∧h'.get X=.cells false 34 [u,.bool ro,.int .i64 n,.int .i64 K,.int .i64 T]∧Qed h' W g1 cs y d sure fs1∧(fs1.fused=true→¬ n < 0)) ?_ fun j93 H93=>?_
    rotate_left
    · rw [X2 h41 gX, Qi]
      by_cases hn:n < 0
      · rw [show ltI n (Int.ofNat 0) = true from Yj.2 hn, Bool.not_true, Qq]
        exact H93 _ _ _ ⟨rfl,fs,g,rfl,C41,gX,L41,fun e=>by rw [S.ns] at e;cases e⟩
      · rw [show ltI n (Int.ofNat 0) = false from ZJ.2 (Int.not_lt.1 hn), Bool.not_false, QU, X2 h41 gX]
        refine p13 C41.f fun h' g' f' nn=>?_
        exact H93 _ _ _ ⟨rfl,(fs.fuse n).2,g',by rw [nn.id],C41.step (.of nn) f' (C41.inv.fuse hn63) ⟨_,_,_,L41.w.nxt nn⟩,QeX C41.f nn gX (.inl rfl),⟨L41.w.nxt nn,L41.o.fuse n,L41.fu⟩,fun _=>hn⟩
    rintro x d' h92 ⟨rfl,fs1,g1,rfl,C,gX,Lv,hz⟩
    (try dsimp only)
    have few:=S.few
    have qS:=S.q
    rw [Qt,XA h92 gX]
    refine t9v (fun x97 x98 h96=>∃ g2 fs2 sure2,((x98≠Int.ofNat 0∧sure2=sure)∨(x98=Int.ofNat 0∧x97=Int.ofNat (sure.length+1)∧sure2=sure++[(sure.length+1,l)]∧BOk (sure.length+1,l)))∧C0 h h96 g2 fs2 W v sure (73+29221900 * i+73 * 400100) (1+2 * i)∧h96.get X=.cells false 34 [u,.bool ro,.int .i64 n,.int .i64 K,.int .i64 T]∧Alt n h96 W g2 fs2 (cs.length+1) (sure.length+1) sure2 (sure.length+1,l)∧(fs2.fused=true→¬ n < 0)∧g2.id=g1.id) n C Lv (by omega) (by omega) (by omega) (ru' h92 C.on) gX hz (fun a b h' g' fs' sure' c1 c2 c3 c4 c5 c6=>⟨g',fs',sure',c1,c2,c3,c4,c5,c6⟩) ?_
    rintro x97 x98 h96 ⟨g2,fs2,sure2,hor,C2,gX2,al,hz2,id2⟩
    (try dsimp only)
    rw [C2.lb.bp.len,Qx,Ye,WS _ (by omega),Qt,XA h96 gX2]
    refine Qm one ?_
    have b96:=C2.on.base
    have n96:=C2.on.next
    refine Q8 fun h104 o104 n104 g104=>?_
    refine KH g104 rfl (by show (Bool.rec (motive:=fun _=>Bool) false (Bool.rec (motive:=fun _=>Bool) false true (Zv u)) true:Bool)=true;rw [one]) rfl (by rw [o104.base];omega) fun h105 o105 n105 g105=>?_
    have gY:h105.get h96.next=.cells false 40 [.int .i64 (Int.ofNat (sure.length+1)),u]:=g105
    have O105:Only noL h96 h105:=o104.trans o105 fun j hj e=>by omega
    have C5:=C2.pure O105
    have gX5:=O105.at gX2 rfl id
    have al5:=(al.pure O105).mono (M':=2 * i+1) (Q':=i+1) (by omega) (by omega)
    have hY:∀ j,ZX v j→j < h96.next:=fun j b=>lb_blk C2.lb b
    have YA:∀ h',(h'.get h96.next=.cells false 40 [.int .i64 (Int.ofNat (sure.length+1)),u])→∀ k,ldN 2 (.ptr h96.next 0) h' k=k [.int .i64 (Int.ofNat (sure.length+1)),u]:=fun h' e k=>ZY e rfl k
    clear o104 n104 g104 o105 n105 g105
    generalize h96.next=Y at gY hY YA n96 ⊢
    refine QaA (fun x d' h'=>d'=[]∧∃ g3 fs3 v3 sure3,x=(a0,.ptr g3.id 0,.ptr W 0,v3,.int .i64 (Int.ofNat i),.ptr X 0,.ptr Y 0,())∧C0 h h' g3 fs3 W v3 sure3 (73+29221900 * i+73 * 400100) (1+2 * i)∧h'.get X=.cells false 34 [u,.bool ro,.int .i64 n,.int .i64 K,.int .i64 T]∧h'.get Y=.cells false 40 [.int .i64 (Int.ofNat (sure.length+1)),u]∧Alt n h' W g3 fs3 (2 * i+1) (i+1) sure3 (sure.length+1,l)∧(fs3.fused=true→¬ n < 0)∧sure3.length≤i+1) ?_ fun j109 H109=>?_
    rotate_left
    · rcases hor with ⟨ne, e⟩ | ⟨e1, e2, e3, bo⟩
      · rw [Zb.2 ne, Qi, Qq]
        rw [e] at al5
        exact H109 _ _ _ ⟨rfl,g2,fs2,v,_,by rw [id2],C5,gX5,gY,al5,hz2,by omega⟩
      · rw [e3] at al5
        rw [e1,e2,NM,Qi,QU,C5.lb.bp.len,Qx,Ye,WS _ (by omega),Qi,NM,Bool.not_true,Qq,YA h105 gY]
        refine Qm rfl ?_
        rw [show Q7 0 [.int .i64 (Int.ofNat (sure.length+1)),u] [(.int .i64 0),(.nils)]=some [.int .i64 (Int.ofNat (sure.length+1)),u] from rfl,QB]
        refine Q8 fun h256 o256 n256 g256=>?_
        have C6:=C5.pure o256
        refine Lb.snoc (b:=(sure.length+1,l)) C6.lb one (ru' h256 C6.on) (Jc bo) g256 (C6.base hb) C6.on.next (by omega) fun v3 h259 lb3 o3=>?_
        refine H109 _ _ _ ⟨rfl,g2,fs2,v3,_,by rw [id2],C6.blk o3 lb3 fun b hb'=>?_,blk_keep C6.lb o3 (o256.at gX5 rfl id) (by decide),o3.at (o256.at gY rfl id) rfl (fun b=>absurd (hY _ b) (Nat.lt_irrefl _)),(al5.pure o256).blk C6.lb o3,hz2,by rw [List.length_append];show sure.length+1≤_;omega⟩
        rcases List.mem_append.1 hb' with hb' | hb'
        · exact C6.bk b hb'
        · have : b = (sure.length + 1, l) := by simpa using hb'
          rw [this];exact bo
    rintro x d' h108 ⟨rfl,g3,fs3,v3,sure3,rfl,C3,gX3,gY3,al3,hz3,q3⟩
    (try dsimp only)
    refine QaA (fun x d' h'=>d'=[]∧∃ g4 fs4,x=(a0,.ptr g4.id 0,.ptr W 0,v3,.int .i64 (Int.ofNat i),.ptr X 0,.ptr Y 0,())∧C0 h h' g4 fs4 W v3 sure3 (73+29221900 * i+73 * 400101) (2+2 * i)∧h'.get X=.cells false 34 [u,.bool ro,.int .i64 n,.int .i64 K,.int .i64 T]∧h'.get Y=.cells false 40 [.int .i64 (Int.ofNat (sure.length+1)),u]∧Alt n h' W g4 fs4 (2 * i+2) (i+1) sure3 (sure.length+1,l)∧(fs4.fused=true→¬ n < 0)) ?_ fun j113 H113=>?_
    rotate_left
    · rw [Qt, XB h108 gX3]
      cases hro:ro with
      | false =>
        rw [Qq]
        exact H113 _ _ _ ⟨rfl,g3,fs3,rfl,C3.mono (by omega) (by omega),gX3,gY3,al3.mono (by omega) (by omega),hz3⟩
      | true =>
        rw [QU]
        refine t10v (fun a h'=>∃ g' fs',C0 h h' g' fs' W v3 sure3 (73+29221900 * i+73 * 400100+73) (1+2 * i+1)∧h'.get X=.cells false 34 [u,.bool ro,.int .i64 n,.int .i64 K,.int .i64 T]∧h'.get Y=.cells false 40 [.int .i64 (Int.ofNat (sure.length+1)),u]∧Alt n h' W g' fs' (2 * i+1+1) (i+1) sure3 (sure.length+1,l)∧(fs'.fused=true→¬ n < 0)∧g'.id=g3.id) n C3 al3 (by omega) (by omega) (by omega) gX3 gY3 hz3 (fun a h' g' fs' c1 c2 c3 c4 c5 c6=>⟨g',fs',c1,c2,c3,c4,c5,c6⟩) ?_
        rintro a h' ⟨g',fs',c1,c2,c3,c4,c5,c6⟩
        exact H113 _ _ _ ⟨rfl,g',fs',by rw [c6],c1.mono (by omega) (by omega),c2,c3,c4,c5⟩
    rintro x d' h112 ⟨rfl,g4,fs4,rfl,C4,gX4,gY4,al4,hz4⟩
    (try dsimp only)
    rw [Qt,XN h112 gX4,Qi]
    by_cases hn:n < 0
    · rw [show ltI n (Int.ofNat 0) = true from Yj.2 hn, QU]
      rcases al4 with ⟨cs',y',d',lv,h1,h2⟩ | b
      · refine H34 _ _ _ ⟨rfl, W, v3, cs', y', d', sure3, g4, fs4, rfl, C4.mono (by omega) (by omega), lv, ?_, by omega, h2⟩
        cases hf:fs4.fused with
        | false=>rfl
        | true=>exact absurd hn (hz4 hf)
      · exact absurd hn b.fu
    rw [show ltI n (Int.ofNat 0)=false from ZJ.2 (Int.not_lt.1 hn),Qq,Qt,XK h112 gX4,Qt,XT h112 gX4]
    refine p17 C4.f C4.inv (by omega) (by omega) fun h121 g5 f5 n5=>?_
    obtain ⟨e1,e2,cs5,⟨bs5,sg5,m5,q5,told⟩,o5⟩:=al4.cx C4.inv K T (by omega) (by omega)
    have i5:=C4.inv.crash K T
    obtain ⟨nw1,sw1,br1,w4⟩:=C4.w
    have C5':=C4.step (.of n5) f5 i5 ⟨_,_,_,w4.nxt n5⟩
    have gY5:=QeX C4.f n5 gY4 (.inr rfl)
    rw [e1,Qi,z0,Qq,show g4.id=g5.id from n5.id.symm]
    refine t6 f5 o5 i5 (by omega) (by omega) (by omega) e2 sg5 fun h125 g6 fs6 x6 W6 v6 f6 w6 o6 i6 lb6 n6 ff6 hW6=>?_
    have C6:=C5'.step (.of n6) f6 i6 ⟨_,_,_,(w4.nxt n5).nxt n6⟩
    have gY6:=QeX C5'.f n6 gY5 (.inr rfl)
    have n121:=C5'.on.next
    have lbT:=lb6.mono n121
    have bkT:∀ b∈bs5.flatten,BOk b:=sg5.ok
    have C7:C0 h h125 g6 fs6 W6 v6 bs5.flatten (73+29221900 * i+73 * 400101+73) (2+2 * i+1):=⟨f6,i6,lbT,bkT,C6.on,C6.gl,by omega,⟨_,_,_,w6⟩⟩
    have L7:Qed h125 W6 g6 cs5 x6 [] bs5.flatten fs6:=⟨w6,o6,sg5.add x6⟩
    have bl3:∀ b∈sure3,b.2.length≤140737488351232:=fun b hb'=>QdT (C6.bk b hb')
    have LT:=lbT.bp.len
    have LS':=C6.lb.bp.len
    have z3:Qc .i64 (Int.add (Int.ofNat sure3.length) (Int.ofNat 1))=Int.ofNat (sure3.length+1):=by rw [Ye,WS _ (by omega)]
    rw [Qi,z00]
    ((rw [Qs];(try dsimp only);rw [Qq];(try dsimp only)))
    ((rw [Qs];(try dsimp only);rw [Qq];(try dsimp only)))
    rw [Qs];(try dsimp only);rw [Qq];(try dsimp only)
    rcases told with told | told
    · have zl : bs5.flatten.length = sure3.length := by rw [told]
      have z1:ltI (Int.ofNat (sure3.length+1)) (Int.ofNat bs5.flatten.length)=false:=Zr (by omega)
      have z2:ltI (Int.ofNat sure3.length) (Int.ofNat bs5.flatten.length)=false:=Zr (by omega)
      refine t12 (l:=sure3) (r:=[]) (by rw [List.append_nil,← told];exact lbT) C6.lb bl3 (by omega) ?_
      (try dsimp only)
      ((rw [Qs];(try dsimp only);rw [Qq];(try dsimp only)))
      rw [Ql,Qi,Bool.not_true];(try dsimp only)
      rw [QA,Ql];(try dsimp only)
      ((rw [Qs];(try dsimp only);rw [Qq];(try dsimp only)))
      rw [Qs];(try dsimp only);rw [Qq,LT];(try dsimp only)
      ((rw [Qs];(try dsimp only);rw [Qq];(try dsimp only)))
      rw [Qs];(try dsimp only);rw [Qq,LS'];(try dsimp only)
      rw [Qs];(try dsimp only);rw [Qq,Qd,Qx,z3];(try dsimp only)
      rw [Qs];(try dsimp only);rw [Qq,Qd,Qd,z1,Qi];(try dsimp only)
      rw [QA,Ql];(try dsimp only)
      ((rw [Qs];(try dsimp only);rw [Qq];(try dsimp only)))
      rw [Qs];(try dsimp only);rw [Qq,LT];(try dsimp only)
      ((rw [Qs];(try dsimp only);rw [Qq];(try dsimp only)))
      rw [Qs];(try dsimp only);rw [Qq,LS'];(try dsimp only)
      rw [Qs];(try dsimp only);rw [Qq,Qd,Qd,z2,Qi];(try dsimp only)
      ((rw [Qs];(try dsimp only);rw [Qq];(try dsimp only)))
      simp only [↓Qs,↓DQ,↓Qq,↓Zc,↓QA,↓Ql,↓Qi]
      exact H34 _ _ _ ⟨rfl,W6,v6,cs5,x6,[],bs5.flatten,g6,fs6,by rw [n6.id],C7.mono (by omega) (by omega),L7,ff6,by omega,q5⟩
    · have zl : bs5.flatten.length = sure3.length + 1 := by rw [told, List.length_append]; rfl
      have z1:ltI (Int.ofNat (sure3.length+1)) (Int.ofNat bs5.flatten.length)=false:=Zr (by omega)
      have z2:ltI (Int.ofNat sure3.length) (Int.ofNat bs5.flatten.length)=true:=ZP (by omega)
      refine t12 (l:=sure3) (r:=[(sure.length+1,l)]) (by rw [← told];exact lbT) C6.lb bl3 (by omega) ?_
      (try dsimp only)
      ((rw [Qs];(try dsimp only);rw [Qq];(try dsimp only)))
      rw [Ql,Qi,Bool.not_true];(try dsimp only)
      rw [QA,Ql];(try dsimp only)
      ((rw [Qs];(try dsimp only);rw [Qq];(try dsimp only)))
      rw [Qs];(try dsimp only);rw [Qq,LT];(try dsimp only)
      ((rw [Qs];(try dsimp only);rw [Qq];(try dsimp only)))
      rw [Qs];(try dsimp only);rw [Qq,LS'];(try dsimp only)
      rw [Qs];(try dsimp only);rw [Qq,Qd,Qx,z3];(try dsimp only)
      rw [Qs];(try dsimp only);rw [Qq,Qd,Qd,z1,Qi];(try dsimp only)
      rw [QA,Ql];(try dsimp only)
      ((rw [Qs];(try dsimp only);rw [Qq];(try dsimp only)))
      rw [Qs];(try dsimp only);rw [Qq,LT];(try dsimp only)
      ((rw [Qs];(try dsimp only);rw [Qq];(try dsimp only)))
      rw [Qs];(try dsimp only);rw [Qq,LS'];(try dsimp only)
      rw [Qs];(try dsimp only);rw [Qq,Qd,Qd,z2,Qi];(try dsimp only)
      ((rw [Qs];(try dsimp only);rw [Qq];(try dsimp only)))
      rw [Qs];(try dsimp only);rw [Zc];(try dsimp only);rw [QU];(try dsimp only)
      rw [Qs];(try dsimp only);rw [Zc];(try dsimp only);rw [QU];(try dsimp only)
      rw [Qs];(try dsimp only);rw [Zc];(try dsimp only);rw [QU,LS'];(try dsimp only)
      rw [Qs];(try dsimp only);rw [Zc];(try dsimp only);rw [QU];(try dsimp only)
      refine lbT.drop (by omega) fun v209 b209=>?_
      rw [told,List.drop_left] at b209
      rw [DQ];(try dsimp only);rw [Zc];(try dsimp only);rw [QU,YA h125 gY6];(try dsimp only)
      rw [Qs];(try dsimp only);rw [Zc];(try dsimp only);rw [QU,ZS];(try dsimp only)
      refine Qm rfl ?_
      rw [show Q7 0 [.int .i64 (Int.ofNat (sure.length+1)),u] [(.int .i64 0),(.nils)]=some [.int .i64 (Int.ofNat (sure.length+1)),u] from rfl,QB]
      refine Q8 fun h218 o218 n218 g218=>?_
      rw [Qs];(try dsimp only);rw [Zc];(try dsimp only);rw [QU];(try dsimp only)
      have C8:=C7.pure o218
      refine t13 (l:=[(sure.length+1,l)]) (b209.only o218) (bp_one g218 (ru' h218 C8.on)) (fun b hb'=>by
        have:b=(sure.length+1,l):=by simpa using hb'
        rw [this];exact hlen) (by show 1≤1000000;decide) ?_
      (try dsimp only)
      rw [Qs];(try dsimp only);rw [Zc];(try dsimp only);rw [QU,Ql,Qi,Bool.not_true];(try dsimp only)
      rw [Qs];(try dsimp only);rw [Qq,QQ,Ql];(try dsimp only)
      rw [QA,Ql,Qq]
      exact H34 _ _ _ ⟨rfl,W6,v6,cs5,x6,[],bs5.flatten,g6,fs6,by rw [n6.id],C8.mono (by omega) (by omega),⟨L7.w.nxt (Nxt.pure g6 o218),L7.o,L7.fu⟩,ff6,by omega,q5⟩
  · rintro x h26 self ⟨W, v, cs, y, d, sure, g, fs, rfl, S⟩
    (try dsimp only)
    have few:=S.few
    have qS:=S.q
    rw [r.len,Qd,Qi,Zr (Nat.le_refl _),Qq]
    obtain ⟨bs,sB,eB⟩:=S.l.fu.sg
    refine t6 S.c.f S.l.o S.c.inv (by omega) (by omega) (by rw [List.length_append];show cs.length+1+1 < 99;omega) S.ns sB fun h265 g2 fs2 x2 W2 v2 f2 w2 o2 i2 lb2 n2 ff2 hW2=>?_
    have lbS:=S.c.lb.nxt S.c.ne S.c.f n2
    rw [eB] at lb2
    rw [Qi,show eqI (Int.ofNat 0) (Int.ofNat 0)=true from rfl]
    rw [Qs];(try dsimp only);rw [QU];(try dsimp only)
    rw [Qs];(try dsimp only);rw [QU];(try dsimp only)
    rw [Qs];(try dsimp only);rw [QU];(try dsimp only)
    refine t13 lb2.bp lbS.bp (fun b hb'=>QdT (S.c.bk b hb')) (by omega) ?_
    simp only [↓QQ,↓Ql]
    exact hk _
  · rw [n10.id]
  · have n7 := o7.next
    refine ⟨⟨f10,i10,Lb.nil _ _,fun b hb=>(by cases hb),((o7.imp fun _ _ c=>c.elim).trans n10.o fun i hi o=>?_),fun i o=>?_,by omega,⟨_,_,_,w10⟩⟩,⟨w10,o10,Sg.nil.add _⟩,ff10,Nat.le_refl _,Nat.le_refl _⟩
    · rcases o with o | o | o | o
      · show h.next≤i;rw [o];show h.next≤h.next+2;omega
      · show h.next≤i;rw [o];exact Nat.le_refl _
      · show h.next≤i;rw [o];show h.next≤h.next+1;omega
      · cases o
    · rcases n10.own i o with c | c
      · rcases c with o | o | o | o
        · rw [o];show h.next≤h.next+2;omega
        · rw [o];exact Nat.le_refl _
        · rw [o];show h.next≤h.next+1;omega
        · cases o
      · omega
end
end Go.Proofs.YtbcfpeelkaoljaaDoor
