import Derived.Test.YtfgdelkdmdmfgaaDoorLaF
import Derived.Test.YtfgdelkdmdmfgaaDoorWlLaw
noncomputable section
namespace Go.Proofs.YtfgdelkdmdmfgaaDoor
open Go Go.Am
set_option linter.all false
set_option maxRecDepth 100000
abbrev T7:AV→H→(Bool→H→Prop)→Prop:=s7G J0
abbrev T14:AV→H→(Int→H→Prop)→Prop:=s9G J0 (Nb J0)
abbrev T11:Int→Int→H→(Int→H→Prop)→Prop:=Qeq J0
abbrev T12:AV→Int→Int→H→(AV→Int→H→Prop)→Prop:=Qep J0 (QdP J0)
abbrev T13:AV→Str→Int→Int→H→(Int→H→Prop)→Prop:=Qeo J0 s30 s33
def Qbo (Q:H→Prop):Fun:=fun xs h k=>xs=[]∧Q h∧k (.bool true) h
theorem Qd7:(⟨10,563758740576151180161073⟩:Str)=Str.of (QT 1):=by decide +kernel
abbrev Lw:=AV × List Wt
def lwc (e:Lw):List AV:=[e.1]
theorem Qdf (e:Lw):(lwc e).length=1:=rfl
structure WL (h0:H) (i:Nat) (h:H) (W:Nat) (v:AV) (x:Int) (bl:List Bt) (es:List Nat) (g:FsG) (fs:Fs):Prop where
  f:FsAt h g fs
  inv:Inv fs (73+29221900 * i) 1
  o:LgOn [(x,ZC bl)] fs
  w:WalAt h W g bl.length 1 false
  ns:fs.fused=false
  on:Only (fun j=>h0.next≤j) h0 h
  gl:∀ j,Own g j→h0.next≤j
  wl:h0.next≤W
  len:bl.length=i
  ok:∀ b∈bl,Y6 b.2=Int.ofNat 0∧b.1≤1073741824
  en:GrX h0.next h v es
  el:es.length=i+1
  ee:∀ (j:Nat) (hj:j < es.length),es[j]=(ZC (bl.take j)).length
theorem Fs.lt_next {fs:Fs} {N c:Nat} {x:Int} {d:List UInt8} (o:LgOn [(x,d)] fs) (i:Inv fs N c):x < fs.next:=(i.sure.lt _ _ (o.lg.nm1 0 (by show 0 < 1;omega))).2
theorem GV (a b:UInt8):b ^^^ (a ^^^ b)=a:=by
  apply UInt8.toNat_inj.1
  rw [UInt8.toNat_xor,UInt8.toNat_xor,Nat.xor_comm a.toNat,← Nat.xor_assoc,Nat.xor_self,Nat.zero_xor]
theorem xor8 (a c:UInt8):VF .u8 (bI a) (bI c)=bI (a ^^^ c):=by
  have h1:=a.toNat_lt
  have h2:=c.toNat_lt
  show Qd .u8 (Int.ofNat (Nat.xor (toU .u8 (Int.ofNat a.toNat)) (toU .u8 (Int.ofNat c.toNat))))=_
  have t1:toU .u8 (Int.ofNat a.toNat)=a.toNat:=Nat.mod_eq_of_lt (by show _ < 256;omega)
  have t2:toU .u8 (Int.ofNat c.toNat)=c.toNat:=Nat.mod_eq_of_lt (by show _ < 256;omega)
  rw [t1,t2,w8u]
  · show _ = Int.ofNat (a ^^^ c).toNat
    rw [UInt8.toNat_xor];rfl
  · exact Nat.xor_lt_two_pow (n:=8) h1 h2
section
variable {KB:Bool→H→Prop}
theorem altered {h0 h:H} {g:FsG} {fs:Fs} {x:Int} {pre y fr post rs:List UInt8} {rl:List (List UInt8)} {r0:List UInt8} {es:List Nat} {ve vb vy:AV} {k:Nat} {A c:Nat} {J:List (Nat × Fun)}
    (f:FsAt h g fs) (i:Inv fs A c) (hA:A≤Qe) (o:LgOn [(x,pre++(fr++post))] fs) (en:GrX h0.next h ve es) (hk:k < es.length) (ek:es[k]=pre.length) (qb:SlB h vb (pre++(fr++post))) (qy:SlB h vy y) (hl:y.length=fr.length)
    (epre:pre=rl.flatMap Qs) (efr:fr=Qs r0) (hr0:r0.length≤1048576) (hc:Bad r0 y) (hrl:∀ r∈rl,r.length≤1048576) (hn:rl.length≤1000000000) (hD:(pre++(fr++post)).length≤100000000) (hk':∀ h',KB true h')
    {body:(AV × AV × AV × AV × AV × AV × Unit→List Dfr→H→Prop)→AV × AV × AV × AV × AV × AV × Unit→List Dfr→H→Prop}
    (hbody:∀ (i:Nat) (h1:H) (fs1:Fs) (self:AV × AV × AV × AV × AV × AV × Unit→List Dfr→H→Prop) (hi:i < fr.length),FsAt h1 g fs1→LgOn [(x,WZ pre y fr post i)] fs1→fs1.Fits Qe→SlB h1 vb (pre++(fr++post))→SlB h1 vy y→GrX h0.next h1 ve es →
      (∀ (h2:H) (fs2:Fs),FsAt h2 g fs2→LgOn [(x,WZ pre y fr post (i+1))] fs2→fs2.Fits Qe→fs2.next=fs1.next→SlB h2 vb (pre++(fr++post))→SlB h2 vy y→GrX h0.next h2 ve es→self (.ptr g.id 0,ve,vb,.int .i64 (Int.ofNat k),vy,.int .i64 (Int.ofNat (i+1)),()) [] h2)→x < fs1.next→body self (.ptr g.id 0,ve,vb,.int .i64 (Int.ofNat k),vy,.int .i64 (Int.ofNat i),()) [] h1)
    (hlast:∀ (h1:H) (fs1:Fs) (self:AV × AV × AV × AV × AV × AV × Unit→List Dfr→H→Prop),FsAt h1 g fs1→LgOn [(x,pre++(y++post))] fs1→fs1.Fits Qe→SlB h1 vy y→body self (.ptr g.id 0,ve,vb,.int .i64 (Int.ofNat k),vy,.int .i64 (Int.ofNat fr.length),()) [] h1) :
    J0.lp body (.ptr g.id 0,ve,vb,.int .i64 (Int.ofNat k),vy,.int .i64 (Int.ofNat 0),()) [] h:=by
  refine YA fr.length (fun j x' h'=>∃ fs',x'=(.ptr g.id 0,ve,vb,.int .i64 (Int.ofNat k),vy,.int .i64 (Int.ofNat j),())∧FsAt h' g fs'∧LgOn [(x,WZ pre y fr post j)] fs'∧fs'.Fits Qe∧x < fs'.next∧SlB h' vb (pre++(fr++post))∧SlB h' vy y∧GrX h0.next h' ve es) (by rw [List.length_append,List.length_append] at hD;omega) ?_ ?_ ⟨fs,rfl,f,by rw [mix_0];exact o,i.fit.mono hA,Fs.lt_next o i,qb,qy,en⟩
  · rintro j x' h1 self hj ⟨fs1, rfl, f1, o1, t1, n1, b1, y1, e1⟩ hs
    exact hbody j h1 fs1 self hj f1 o1 t1 b1 y1 e1 (fun h2 fs2 f2 o2 t2 n2 b2 y2 e2=>hs _ _ ⟨fs2,rfl,f2,o2,t2,by rw [n2];exact n1,b2,y2,e2⟩) n1
  · rintro x' h1 self ⟨fs1, rfl, f1, o1, t1, n1, b1, y1, e1⟩
    rw [mix_all hl] at o1
    exact hlast h1 fs1 self f1 o1 t1 y1
set_option maxHeartbeats 1000000 in
theorem t3 (Q : H → Prop) {a0 : AV} {L : List Lw} {a1 a2 : Int} {bits : Nat} {h : H} (r : RowAt lwc 1 h a0 L) (rl : ∀ e ∈ L, RowP wrc 3 h e.1 e.2 ∧ e.2.length ≤ 140737488351232) (hb : h.base ≤ h.next) (hl : L.length ≤ 140737488351232) (hbits : bits < 4294967296) (hQ : Q h) (hk : ∀ h', KB true h') :
    s3G J0 (Qbo Q) s5 T6 T7 T9 T14 s10 T11 T12 T13 a0 a1 a2 (Int.ofNat bits) h KB:=by
  have hm:Qe=140737488355328:=rfl
  unfold s3G
  refine ⟨rfl,hQ,?_⟩
  dsimp only
  rw [Qm,Qg,Bool.not_true,Qr,r.len,Qg,W5]
  by_cases hz:L.length=0
  · rw [decide_eq_true hz]
    simp only [↓Qq,↓QO,↓QS,↓Qm]
    exact hk _
  rw [decide_eq_false hz]
  have RL:=r.len
  rw [Qq];(try dsimp only);rw [Qr];(try dsimp only)
  rw [Qq];(try dsimp only);rw [Qr,RL];(try dsimp only)
  rw [Qq];(try dsimp only);rw [Qr,Qa,Qg,ZI];(try dsimp only)
  by_cases h30:30 < L.length
  · rw [decide_eq_true h30, QF, Qm]
    simp only [↓Qq,↓QO,↓QS,↓Qm]
    exact hk _
  rw [decide_eq_false h30,QF,Qm];(try dsimp only)
  ((rw [Qq];(try dsimp only);rw [Qr];(try dsimp only)))
  rw [Qq];(try dsimp only);rw [Qr,Qa,Qg,W5];(try dsimp only)
  rw [QF,Qm]
  by_cases hb0:bits=0
  · rw [decide_eq_true hb0,QO];exact hk _
  rw [decide_eq_false hb0,Qr]
  refine p10 hb (by decide) (by decide) fun h7 f7 o7=>?_
  refine t6 (g:=⟨h.next+2,h.next,h.next+1,none⟩) (cs:=[]) (bs:=[]) f7 Lg.new (Fs.new_inv _) (by decide) (by decide) (by decide) rfl ⟨rfl,fun i h1=>absurd h1 (Nat.not_lt_zero _),fun b hb=>(by cases hb),fun i h1=>absurd h1 (Nat.not_lt_zero _),Nat.zero_le _⟩ fun h10 g10 fs10 y10 W10 v10 f10 w10 o10 i10 lb10 n10 ff10 hW10=>?_
  have z00:Bool.not (eqI (Int.ofNat 0) (Int.ofNat 0))=false:=rfl
  rw [Qg,z00,Qr]
  have n7:=o7.next
  have gl7:∀ j,Own (⟨h.next+2,h.next,h.next+1,none⟩:FsG) j→h.next≤j:=fun j o=>by
    rcases o with o | o | o | o
    · rw [o];show h.next≤h.next+2;omega
    · rw [o];exact Nat.le_refl _
    · rw [o];show h.next≤h.next+1;omega
    · cases o
  have on10:Only (fun j=>h.next≤j) h h10:=(o7.imp fun _ _ c=>c.elim).trans n10.o fun i hi o=>gl7 i o
  refine Zg fun h38 o38 n38 g38=>?_
  have on38:=on10.trans o38 fun _ _ c=>c.elim
  have n10':=on10.next
  refine YA L.length (fun i x h'=>∃ W v y bl es g fs,x=(a0,.int .i64 a1,.int .i64 a2,.int .u32 (Int.ofNat bits),.ptr g.id 0,.ptr W 0,v,.int .i64 (Int.ofNat i),())∧WL h i h' W v y bl es g fs) (by omega) ?_ ?_ ⟨W10,.slice h10.next 0 1 1 1 true,y10,[],[0],g10,fs10,?_,?_⟩
  · rintro i x h41 self hi ⟨W, v, y, bl, es, g, fs, rfl, S⟩ hs
    dsimp only
    have on:=S.on
    have n41:=on.next
    have b41:=on.base
    rw [RL,Qa,Qg,ZA hi,QO]
    have r':∀ h',Only (fun j=>h.next≤j) h h'→RowAt lwc 1 h' a0 L:=fun h' o=>by
      rcases r with r | ⟨id,c,ex,m,t,r1,r2,r3⟩
      · exact .inl r
      · exact .inr ⟨id,c,ex,m,t,r1,(o.get id r3 (by omega)).trans r2,Nat.lt_of_lt_of_le r3 o.next⟩
    obtain ⟨pid,po,p1,_,p3⟩:=Qao Qdf (r' h41 on) hi
    have I1:∀ k,ixK 1 a0 (.int .i64 (Int.ofNat i)) k=k (.ptr pid po):=p1 _
    have V1:∀ h',Only noL h41 h'→∀ k,ldV (.ptr pid po) h' k=k L[i].1:=fun h' o k=>by
      have:=p3 h' 0 L[i].1 k (fun j hj=>o.get j hj fun c=>c) (by decide) rfl
      exact this
    have re:=rl L[i] (List.getElem_mem hi)
    generalize L[i]=e at re V1
    obtain ⟨u,l⟩:=e
    obtain ⟨ru,hlen⟩:=re
    dsimp only at ru hlen V1
    have one:ZB u=true:=Qbf ru
    have ru':∀ h',Only (fun i=>h.next≤i) h h'→RowP wrc 3 h' u l:=fun h' o=>ru.onl o fun j hj c=>by have:=ru.blk hj;omega
    have V0:=V1 h41 (Only.refl _ _)
    rw [I1,V0,ru.len,Qg,ZI]
    by_cases h70:70 < l.length
    · rw [decide_eq_true h70]
      simp only [↓Qq,↓QO,↓QS,↓Qm]
      exact hk _
    rw [decide_eq_false h70]
    ((rw [Qq];(try dsimp only);rw [Qr];(try dsimp only)))
    ((rw [Qq];(try dsimp only);rw [Qr];(try dsimp only)))
    rw [Qq];(try dsimp only);rw [Qr,I1];(try dsimp only)
    rw [Qq];(try dsimp only);rw [Qr,V0];(try dsimp only)
    ((rw [Qq];(try dsimp only);rw [Qr];(try dsimp only)))
    refine t7 (ru' h41 on) hlen fun b=>?_
    (try dsimp only)
    cases b with
    | false =>
      simp only [↓Qq,↓QO,↓Qr,↓Qg,↓Bool.not_false,↓QS,↓QF,↓Qm]
      exact hk _
    | true=>
    ((rw [Qq];(try dsimp only);rw [Qr];(try dsimp only)))
    rw [Qm,Qg,Bool.not_true];(try dsimp only)
    rw [QF,Qm,Qr,I1,V0]
    have ln:=S.len
    have small:=Jg bl S.ok
    have inv:=S.inv
    refine t9 (cs:=[]) (x:=y) (d:=ZC bl) S.f S.o inv (by omega) (by decide) (by omega) S.w (ru' h41 on) (fun h' hne f' o'=>?_) (fun h' g' hce sp f' w' n'=>?_) (fun h' g' fs' hce f' w' o' i' n' ff=>?_) fun h' g' fs' hce f' w' cx i' n' ff=>?_
    · rw [show Bool.not (eqI (Y6 l) (Int.ofNat 0)) = true from by rw [Q4.2 hne]; rfl, Qg, QO, I1, V1 h' o']
      refine t14 (ru' h' (on.trans o' fun _ _ c=>c.elim)) f'.wf fun h84 l84=>?_
      rw [eqI_same,Qg]
      exact hk _
    · exfalso
      have sz:=LgOn.space S.o inv (by omega)
      have eo:=K4 (s:=bl.length+1) (by omega) hce
      rw [sz,Zd] at sp
      have sp:(16777216:Int) - ((ZC bl).length:Int) < ((12+(YK (bl.length+1) l).length:Nat):Int):=sp
      omega
    · rw [Qg, z00, Qr, Qd7]
      have n41':=n'.o.next
      have ong:Only (fun j=>h.next≤j) h h':=on.trans n'.o fun j hj c=>c.elim (S.gl j) fun c=>(show j=W from c) ▸ S.wl
      have gl':∀ j,Own g' j→h.next≤j:=fun j o=>by
        rcases n'.own j o with c | c
        · exact S.gl j c
        · omega
      have en':=GrX.nxt S.en S.f S.w n'
      have fit':fs'.Fits Qe:=i'.fit.mono (by omega)
      rw [show g.id=g'.id from n'.id.symm]
      refine p20 f' fit' fun v89 h88 f88 o88 q88=>?_
      have rd:=LgOn.read_in o' (i:=0) (by show 0 < 1;omega)
      rw [show QT (0+1)=QT 1 from rfl] at rd
      rw [rd] at q88
      (try dsimp only)
      have q88:SlB h88 v89 (ZC bl++Qs (YK (bl.length+1) l)):=q88
      rw [q88.len]
      refine Zg fun h93 o93 n93 g93=>?_
      have en93:=(en'.only o88 fun _ _ c=>c.elim).only o93 fun _ _ c=>c.elim
      have O93:Only noL h' h93:=o88.trans o93 fun _ _ c=>c
      have f93:=f'.only O93 fun _ _=>id
      have w93:=w'.nxt (Nxt.pure g' O93)
      have on93:=ong.trans O93 fun _ _ c=>c.elim
      refine GrX.ap (a:=(ZC bl++Qs (YK (bl.length+1) l)).length) en93 g93 (by rw [on93.base];exact hb) on93.next (by have:=S.el;unfold Qe;omega) fun v' h95 en95 o95=>?_
      rw [Qa,Qo,Ud i (by omega)]
      have w93':WalAt h93 W g' (bl++[(bl.length+1,l)]).length 1 false:=by rw [List.length_append];exact w93
      have db:ZC (bl++[(bl.length+1,l)])=ZC bl++Qs (YK (bl.length+1) l):=NR bl _
      refine hs _ _ ⟨W,v',y,bl++[(bl.length+1,l)],es++[(ZC bl++Qs (YK (bl.length+1) l)).length],g',fs',rfl,f93.only o95 fun j oj c=>?_,i'.mono (by omega) (Nat.le_refl _),by rw [db];exact o',⟨o95.at w93'.at_ rfl fun c=>?_,by rw [o95.base];exact w93.bs,w93.not⟩,ff.trans S.ns,on93.trans o95 fun j hj c=>(en93.blk c).1,gl',S.wl,by rw [List.length_append,ln];rfl,fun b hb'=>?_,en95,by rw [List.length_append,S.el];rfl,fun j hj=>?_⟩
      · obtain ⟨_, _, m, e⟩ := en93.blk c
        exact Np f93 oj e
      · obtain ⟨_, _, m, e⟩ := en93.blk c
        rw [w93.at_] at e;injection e with _ e _;cases e
      · rcases List.mem_append.1 hb' with hb' | hb'
        · exact S.ok b hb'
        · have : b = (bl.length + 1, l) := by simpa using hb'
          rw [this];exact ⟨hce,by show bl.length+1≤_;omega⟩
      · have el := S.el
        by_cases hj2:j < es.length
        · rw [List.getElem_append_left hj2,S.ee j hj2,List.take_append_of_le_length (by omega)]
        · have hj3 : j = es.length := by rw [List.length_append] at hj; have : j < es.length + 1 := hj; omega
          subst hj3
          rw [List.getElem_append_right (Nat.le_refl _)]
          simp only [Nat.sub_self,List.getElem_cons_zero]
          rw [List.take_of_length_le (by rw [List.length_append,ln,el];exact Nat.le_refl _),db]
    · rw [S.ns] at ff;cases ff
  · rintro x h41 self ⟨W, v, y, bl, es, g, fs, rfl, S⟩
    dsimp only
    have on:=S.on
    have el:=S.el
    have ln:=S.len
    have small:=Jg bl S.ok
    have inv:=S.inv
    rw [RL,Qa,Qg,Za (Nat.le_refl _),Qr,Qd7]
    refine p20 S.f (inv.fit.mono (by omega)) fun v99 h98 f98 o98 q98=>?_
    have rd:=LgOn.read_in S.o (i:=0) (by show 0 < 1;omega)
    rw [show QT (0+1)=QT 1 from rfl] at rd
    rw [rd] at q98
    have q98:SlB h98 v99 (ZC bl):=q98
    rw [RL,Qa]
    refine t11 (by omega) (by omega) fun k hkl=>?_
    have en98:=S.en.only o98 fun _ _ c=>c.elim
    have rd3:∀ (h':H) (ve:AV) (hen:GrX h.next h' ve es) (j:Nat) (hj:j < es.length) (kk:Int→Prop),(ixK 1 ve (.int .i64 (Int.ofNat j)) fun p=>ldI .i64 p h' kk)=kk (Int.ofNat es[j]):=fun h' ve hen j hj kk=>by
      obtain ⟨id,o,p1,p2,_⟩:=Qao Nr hen.row hj
      rw [p1]
      exact p2 h' 0 _ kk (fun _ _=>rfl) (by decide) rfl
    have hk0:k < es.length:=by omega
    have hk1:k+1 < es.length:=by omega
    rw [rd3 h98 v en98 k hk0,Qo,Ud k (by omega),rd3 h98 v en98 (k+1) hk1]
    have ek:=S.ee k hk0
    have ek1:=S.ee (k+1) hk1
    have hkb:k < bl.length:=by omega
    have dsp:ZC bl=ZC (bl.take k)++(Qs (YK bl[k].1 bl[k].2)++ZC (bl.drop (k+1))):=by
      have e:bl=bl.take k++([bl[k]]++bl.drop (k+1)):=by
        show bl=bl.take k++(bl[k]::bl.drop (k+1))
        rw [← List.drop_eq_getElem_cons hkb,List.take_append_drop]
      have e2:=congrArg ZC e
      rw [K6,K6] at e2
      rw [e2]
      have:ZC [bl[k]]=Qs (YK bl[k].1 bl[k].2):=by unfold ZC V6;simp
      rw [this]
    have tk:ZC (bl.take (k+1))=ZC (bl.take k)++Qs (YK bl[k].1 bl[k].2):=by
      rw [List.take_succ_eq_append_getElem hkb,NR]
    obtain ⟨okc,oks⟩:=S.ok bl[k] (List.getElem_mem hkb)
    have hr0:=K4 oks okc
    rw [ek,ek1,tk]
    rw [dsp] at q98 small
    have odsp:=S.o
    rw [dsp] at odsp
    have hrl:∀ r∈V6 (bl.take k),r.length≤1048576:=fun r hr=>by
      obtain ⟨b,hb',rfl⟩:=List.mem_map.1 hr
      obtain ⟨c1,c2⟩:=S.ok b (List.mem_of_mem_take hb')
      have:=K4 c2 c1
      omega
    have hrn:(V6 (bl.take k)).length≤1000000000:=by rw [V5,List.length_take];omega
    have epre:ZC (bl.take k)=(V6 (bl.take k)).flatMap Qs:=rfl
    generalize hpre:ZC (bl.take k)=pre at *
    generalize hfr:Qs (YK bl[k].1 bl[k].2)=fr at *
    generalize ZC (bl.drop (k+1))=post at *
    have fl:fr.length=12+(YK bl[k].1 bl[k].2).length:=by rw [← hfr,Zd]
    have tl:(pre++(fr++post)).length=pre.length+(fr.length+post.length):=by rw [List.length_append,List.length_append]
    refine q98.cut (YT 0 pre.length .i64) (YT _ (pre++fr).length .i64) (by rw [List.length_append];omega) (by rw [List.length_append,tl];omega) fun v110 q110=>?_
    have ecut:((pre++(fr++post)).take (pre++fr).length).drop pre.length=fr:=by
      rw [← List.append_assoc,List.take_left,List.drop_left]
    rw [ecut] at q110
    rw [Qa,Qa]
    refine t12b q110 f98.wf (by omega) (by omega) hbits hb0 ?_ fun vy yy pp h111 qy ly vlo l111=>?_
    · rw [show Bool.not (eqI (Int.ofNat 2) (Int.ofNat 0)) = true from rfl, Qg, QO]
      exact hk _
    rw [Qg,z00,Qr]
    have O111:=l111.only
    have bad:Bad (YK bl[k].1 bl[k].2) yy:=frame_burst (t:=bits) (a:=pp) (by rw [hfr];exact ly) hbits hb0 (by rw [hfr];exact vlo)
    refine altered (rs:=[]) (A:=73+29221900 * L.length) (c:=1) (J:=[]) (k:=k) (f98.only O111 fun _ _=>id) inv (by omega) odsp (en98.only O111 fun _ _ c=>c.elim) hk0 (by rw [ek]) (q98.only O111) qy ly epre hfr.symm (by omega) bad hrl hrn (by omega) hk ?_ ?_
    · intro i h1 fs1 self hi f1 o1 t1 b1 y1 e1 hs lt1
      dsimp only
      have YL:=y1.len
      rw [YL,Qa,Qg,ZA (by omega),QO]
      have hiy:i < yy.length:=by omega
      obtain ⟨p,p1,p2⟩:=y1.at hiy
      have hib:pre.length+i < (pre++(fr++post)).length:=by rw [tl];omega
      obtain ⟨p',p1',p2'⟩:=b1.at hib
      have eb:(pre++(fr++post))[pre.length+i]=fr[i]:=by
        rw [List.getElem_append_right (Nat.le_add_right _ _)]
        simp only [Nat.add_sub_cancel_left]
        rw [List.getElem_append_left hi]
      have ea:Qd .i64 (Int.add (Int.ofNat pre.length) (Int.ofNat i))=Int.ofNat (pre.length+i):=by rw [ZE,Yg _ (by omega)]
      have R3:=rd3 h1 v e1 k hk0
      rw [ek] at R3
      rw [p1,p2 h1 _ (fun _ _=>rfl),R3,Qa,Qo,ea,p1',p2' h1 _ (fun _ _=>rfl),eb,xor8,Qo,Qg]
      by_cases hx0:yy[i] ^^^ fr[i]=0
      · have e0 : yy[i] = fr[i] := by
          have:=GV yy[i] fr[i]
          rw [hx0] at this
          rw [← this];simp
        rw [hx0,show Bool.not (eqI (bI 0) (Int.ofNat 0))=false from rfl]
        have nxt:=hs h1 fs1 f1 (by rw [mix_same ly hi e0];exact o1) t1 rfl b1 y1 e1
        simp only [↓Qq,↓Qr,↓QF,↓Qm,↓Qa,↓Qo,Ud i (by omega)]
        exact nxt
      · have ne0 : Bool.not (eqI (bI (yy[i] ^^^ fr[i])) (Int.ofNat 0)) = true := by
          rw [show eqI (bI (yy[i] ^^^ fr[i])) (Int.ofNat 0)=false from ?_]
          · rfl
          · refine Q4.2 fun e => hx0 ?_
            have e:((yy[i] ^^^ fr[i]).toNat:Int)=((0:Nat):Int):=e
            apply UInt8.toNat_inj.1
            have:(yy[i] ^^^ fr[i]).toNat=0:=by omega
            rw [this];rfl
        rw [ne0]
        ((rw [Qq];(try dsimp only);rw [QO];(try dsimp only)))
        ((rw [Qq];(try dsimp only);rw [QO];(try dsimp only)))
        ((rw [Qq];(try dsimp only);rw [QO];(try dsimp only)))
        obtain ⟨eid,eo,q1,q2,_⟩:=Qao Nr e1.row hk0
        have I3:∀ kk,ixK 1 v (.int .i64 (Int.ofNat k)) kk=kk (.ptr eid eo):=q1 _
        have L3:∀ kk,ldI .i64 (.ptr eid eo) h1 kk=kk (Int.ofNat pre.length):=fun kk=>by
          have:=q2 h1 0 _ kk (fun _ _=>rfl) (by decide) rfl
          rw [ek] at this
          exact this
        rw [Qq];(try dsimp only);rw [QO,I3];(try dsimp only)
        rw [Qq];(try dsimp only);rw [QO,L3];(try dsimp only)
        ((rw [Qq];(try dsimp only);rw [QO];(try dsimp only)))
        rw [Qq];(try dsimp only);rw [QO,Qa,Qa,Qo,ea];(try dsimp only)
        ((rw [Qq];(try dsimp only);rw [QO];(try dsimp only)))
        rw [Qq];(try dsimp only);rw [QO,Qa,Qa];(try dsimp only)
        have ml:=Qax (pre:=pre) (y:=yy) (fr:=fr) (post:=post) ly (Nat.le_of_lt hi)
        have him:pre.length+i < (WZ pre yy fr post i).length:=by rw [ml];omega
        have mg:=Qde (pre:=pre) (post:=post) ly hi him
        have n1:Zh fs1.sure.names (QT 1)=some y:=o1.lg.nm1 0 (by show 0 < 1;omega)
        have d1:QG fs1.sure.files y=WZ pre yy fr post i:=o1.lg.dat 0 (by show 0 < 1;omega)
        refine p13a f1 (Y9 1 (by omega)) n1 d1 him (by rw [ml];omega) fun h167 f167 o167=>?_
        have es':(WZ pre yy fr post i).set (pre.length+i) ((WZ pre yy fr post i)[pre.length+i] ^^^ (yy[i] ^^^ fr[i]))=WZ pre yy fr post (i+1):=by
          rw [mg,GV,Qdd ly hi]
        rw [es'] at f167
        rw [Qq];(try dsimp only);rw [QO,Qa,z00,Qg];(try dsimp only)
        rw [QS,Qm,Qr,Qa,Qo,Ud i (by omega)]
        have ml':=Qax (pre:=pre) (y:=yy) (fr:=fr) (post:=post) (i:=i+1) ly hi
        exact hs h167 _ f167 (o1.alter lt1 _) (fits_alter o1 t1 (by rw [ml'];omega)) rfl (b1.only o167) (y1.only o167) (GrX.mf e1 f1 o167)
    · intro h1 fs1 self f1 o1 t1 y1
      dsimp only
      rw [y1.len,Qa,Qg,Za (by omega),Qr]
      refine t6c (rs:=V6 (bl.take k)) (r0:=YK bl[k].1 bl[k].2) (y:=yy) (rest:=post) f1 t1 (by rw [← epre];exact o1) (by rw [hfr];exact ly) (by omega) bad hrl (by rw [← epre,List.length_append,List.length_append];omega) hrn fun h180=>?_
      have nb:∀ k:Bool→Prop,nilB 0 .nilp k=k true:=fun k=>rfl
      have ln0:∀ k:Nat→Prop,ZH .nils k=k 0:=fun k=>rfl
      rw [nb]
      ((rw [Qq];(try dsimp only);rw [QO];(try dsimp only)))
      rw [Qq];(try dsimp only);rw [QO,ln0];(try dsimp only)
      rw [Qq];(try dsimp only);rw [QO,Qa,show eqI (Int.ofNat 0) (Int.ofNat 0)=true from rfl,Qg];(try dsimp only)
      rw [QS,Qm];(try dsimp only)
      ((rw [Qq];(try dsimp only);rw [QO];(try dsimp only)))
      rw [Qq];(try dsimp only);rw [QO,Qa,show eqI (Int.ofNat 6) (Int.ofNat 6)=true from rfl,Qg];(try dsimp only)
      rw [QS,Qm]
      exact hk _
  · rw [n10.id]
  · refine ⟨f10.only o38 fun _ _ => id, i10, o10, w10.nxt (Nxt.pure g10 o38), ff10, on38, fun j o => ?_, by omega, rfl, fun b hb => (by cases hb), ⟨h10.next, false, true, rfl, n10', by omega, g38⟩, rfl, fun j hj => ?_⟩
    · rcases n10.own j o with c | c
      · exact gl7 j c
      · omega
    · have hj : j < 1 := hj
      obtain rfl:j=0:=by omega
      rfl
end
end Go.Proofs.YtfgdelkdmdmfgaaDoor
