import Derived.Test.YtfgdelkdmdmfgaaDoorKpD
import Derived.Test.YtfgdelkdmdmfgaaDoorKpQ
import Derived.Test.YtfgdelkdmdmfgaaDoorWaR
noncomputable section
namespace Go.Am
open Go
set_option linter.all false
theorem Vh {h h':H} (o:Only noL h h'):Low h.next h h':=⟨o.base,o.next,fun i hi=>o.get i hi id⟩
def Yp (v:AV) (i:Nat):Prop:=∃ o n c e x,v=.slice i o n c e x
def XZ (D:Nat→Prop) (v:AV):Prop:=∀ i,Yp v i→¬ D i
theorem Vr (i:Nat):¬ Yp .nils i:=by rintro ⟨o,n,c,e,x,h⟩;cases h
theorem ZP {id o n c e:Nat} {x:Bool} {i:Nat}:Yp (.slice id o n c e x) i ↔ i=id:=by
  constructor
  · rintro ⟨o,n,c,e,x,h⟩;injection h with h;exact h.symm
  · rintro rfl;exact ⟨_,_,_,_,_,rfl⟩
end Go.Am
namespace Go.Proofs.YtfgdelkdmdmfgaaDoor
open Go Go.Am
set_option linter.all false
set_option maxRecDepth 100000
theorem RowP.onl {α:Type} {f:α→List AV} {es:Nat} {L:Nat→Prop} {h h':H} {v:AV} {l:List α} (q:RowP f es h v l) (o:Only L h h') (hn:XZ L v):RowP f es h' v l:=by
  rcases q with q | ⟨id,c,ex,m,t,r,q1,q2,q3⟩
  · exact .inl q
  · exact .inr ⟨id,c,ex,m,t,r,q1,(o.get id q3 (hn id (by rw [q1];exact ZP.2 rfl))).trans q2,Nat.lt_of_lt_of_le q3 o.next⟩
theorem RowP.blk {α:Type} {f:α→List AV} {es:Nat} {h:H} {v:AV} {l:List α} (q:RowP f es h v l) {i:Nat} (b:Yp v i):i < h.next:=by
  rcases q with ⟨rfl,_⟩ | ⟨id,c,ex,m,t,r,rfl,q2,q3⟩
  · exact absurd b (Vr i)
  · rw [ZP.1 b];exact q3
theorem ap_growO {α:Type} {f:α→List AV} {e es bytes n:Nat} {h:H} {v:AV} {l:List α} {a:α} {j c tj:Nat} {mj ex:Bool} {k:AV→H→Prop} (g:Grow f e es n h v l) (hf:∀ a,(f a).length=es) (h1:∀ a,ZV (f a)=true)
    (hj:h.get j=.cells mj tj (f a)) (hb:h.base≤n) (hn:n≤h.next) (hl:(l.length+1) * bytes≤Qe)
    (hk:∀ v' h',Grow f e es n h' v' (l++[a])→Only (Yp v) h h'→Yp v' h.next→k v' h'):apC e es bytes v (.slice j 0 1 c es ex) h k:=by
  unfold apC Qb8
  simp only [Zu,hj,Z6]
  have e1:Z4 (Nat.mul 1 es) (Yh 0 (f a))=some (f a):=by
    rw [WM,List.drop_zero,show Nat.mul 1 es=es from Nat.one_mul es,Y4 (by rw [hf];exact Nat.le_refl _),List.take_of_length_le (by rw [hf];exact Nat.le_refl _)]
  rw [e1,Qy]
  rcases g with ⟨rfl,rfl⟩ | ⟨id,m,rfl,g2,g3,g4⟩
  · simp only [W9]
    rw [show Nat.beq 1 0=false from rfl,Qr]
    refine Qp ((Qk _ _).2 ?_) ?_
    · simpa using hl
    · rw [QW]
      refine hk _ _ (.inr ⟨h.next,false,rfl,hn,Nat.lt_succ_self _,?_⟩) ((Low.push h.next h _ (Nat.le_refl _)).only.imp fun _ _ c=>c.elim) (ZP.2 rfl)
      rw [ZG,if_pos rfl];simp
  · simp only [Zu, g4, Z6, Zb]
    rw [show Nat.add l.length 1=l.length+1 from rfl]
    have e2:Nat.ble (l.length+1) l.length=false:=by
      cases q:Nat.ble (l.length+1) l.length
      · rfl
      · rw [Qk] at q;omega
    rw [e2,Qr]
    have hlen:=ZS hf l
    have e3:Z4 (Nat.mul l.length es) (Yh 0 (l.flatMap f))=some (l.flatMap f):=by
      rw [WM,List.drop_zero,Y4 (by rw [hlen];exact Nat.le_refl _),List.take_of_length_le (by rw [hlen];exact Nat.le_refl _)]
    refine Qp ((Qk _ _).2 hl) ?_
    rw [e3,Qy,KM,Qr]
    refine Qp ((Nat.beq_eq ▸ rfl:Nat.beq es es=true)) (Qp ((Nat.beq_eq ▸ rfl:Nat.beq e e=true)) (Qp (h1 a) ?_))
    rw [YX _ g3 (by omega),QW]
    have o1:Only (fun i=>i=id) h (Zt h id .dead):=⟨rfl,Nat.le_refl _,fun i hi hne=>by rw [QU _ _ _ g3,if_neg hne],fun i t f g' s e'=>by rw [QU _ _ _ g3,if_neg (by rintro rfl;rw [g4] at e';cases e')]⟩
    have o2:Only noL (Zt h id .dead) (QI (Zt h id .dead) (.cells true e (l.flatMap f++f a))):=(Low.push _ _ _ (Nat.le_refl _)).only
    refine hk _ _ (.inr ⟨h.next,true,?_,hn,Nat.lt_succ_self _,?_⟩) ((o1.trans o2 fun _ _ c=>c.elim).imp fun i _ c=>ZP.2 c) (ZP.2 rfl)
    · rw [List.length_append];rfl
    · rw [ZG,WG,if_pos rfl];simp
abbrev Bt:=Nat × List Wt
abbrev Be:=Nat × Sl1
def be (e:Be):List AV:=[.int .i64 (Int.ofNat e.1),e.2.1]
theorem X0 (e:Be):(be e).length=2:=rfl
theorem be_ones (e:Be):ZV (be e)=true:=by
  show (Bool.rec (motive:=fun _=>Bool) false (Bool.rec (motive:=fun _=>Bool) false true (ZB e.2.1)) true:Bool)=true
  rw [e.2.2]
def Els (D:Nat→Prop) (h:H) (es:List Be) (l:List Bt):Prop:=es.length=l.length∧∀ (i:Nat) (h1:i < es.length) (h2:i < l.length),es[i].1=l[i].1∧RowP wrc 3 h es[i].2.1 l[i].2∧XZ D es[i].2.1
theorem Els.onl {D L D':Nat→Prop} {h h':H} {es:List Be} {l:List Bt} (q:Els D h es l) (o:Only L h h') (hL:∀ i,L i→D i) (hD:∀ i,i < h.next→D' i→D i):Els D' h' es l :=
  ⟨q.1,fun i h1 h2=>by
    obtain ⟨a,b,c⟩:=q.2 i h1 h2
    exact ⟨a,b.onl o fun j hj hl=>c j hj (hL j hl),fun j hj hd=>c j hj (hD j (b.blk hj) hd)⟩⟩
theorem Els.snoc {D:Nat→Prop} {h:H} {es:List Be} {l:List Bt} (q:Els D h es l) {e:Be} {b:Bt} (h1:e.1=b.1) (h2:RowP wrc 3 h e.2.1 b.2) (h3:XZ D e.2.1):Els D h (es++[e]) (l++[b]):=by
  refine ⟨by rw [List.length_append,List.length_append,q.1];rfl,fun i i1 i2=>?_⟩
  by_cases hi:i < es.length
  · have hi2 : i < l.length := by rw [← q.1]; exact hi
    rw [List.getElem_append_left hi,List.getElem_append_left hi2]
    exact q.2 i hi hi2
  · have i1' : i < es.length + 1 := by simpa using i1
    have hi0:i=es.length:=by omega
    subst hi0
    have e1:(es++[e])[es.length]'i1=e:=by rw [List.getElem_append_right (Nat.le_refl _)];simp
    have e2:(l++[b])[es.length]'i2=b:=by
      have:es.length=l.length:=q.1
      rw [List.getElem_append_right (by omega)];simp [this]
    rw [e1,e2]
    exact ⟨h1,h2,h3⟩
def Lb (N:Nat) (h:H) (v:AV) (l:List Bt):Prop:=∃ es:List Be,Grow be 62 2 N h v es∧Els (Yp v) h es l
theorem Lb.low {N:Nat} {h h':H} {v:AV} {l:List Bt} (q:Lb N h v l) (lo:Low h.next h h'):Lb N h' v l:=by
  obtain ⟨es,g,e⟩:=q
  exact ⟨es,g.keep lo (Nat.le_refl _),e.onl lo.only (fun _ c=>c.elim) fun _ _ c=>c⟩
theorem Lb.nil (N:Nat) (h:H):Lb N h .nils []:=⟨[],.nil _ _ _ _ _,rfl,fun i h1=>absurd h1 (Nat.not_lt_zero _)⟩
section
variable {KI:Int→H→Prop} {KB:Bool→H→Prop} {KA:AV→Int→H→Prop} {KV:AV→H→Prop}
theorem str_any:(⟨3,6385273⟩:Str)=Str.of QdW:=by decide +kernel
theorem t17 {h:H} {g:FsG} {fs:Fs} (f:FsAt h g fs) (fit:fs.Fits Qe) (ha:Zh fs.held.names QdW=none) (hk:∀ h',FsAt h' g fs→Only noL h h'→KI (if fs.off then Int.ofNat 7 else Int.ofNat 0) h'):Qen J0 s10 (.ptr g.id 0) h KI:=by
  unfold Qen
  rw [str_any]
  refine p20 f fit fun v h1 f1 o1 _=>?_
  have e:(fs.read QdW).2=if fs.off then 7 else 4:=by
    cases ho:fs.off with
    | true=>rw [read_off ho];rfl
    | false=>rw [Qbl ho anyB_named ha];rfl
  rw [e]
  cases ho:fs.off with
  | true =>
    have hk:=hk h1 f1 o1
    rw [ho] at hk
    have z1:eqI (7:Int) (Int.ofNat 1)=false:=rfl
    have z2:eqI (7:Int) (Int.ofNat 7)=true:=rfl
    simp only [if_pos,↓Qg,z1,z2,↓Qq,↓QO,↓Qr,↓QS,↓QF,↓Qm,↓Qa]
    exact hk
  | false =>
    have hk:=hk h1 f1 o1
    rw [ho] at hk
    have z1:eqI (4:Int) (Int.ofNat 1)=false:=rfl
    have z2:eqI (4:Int) (Int.ofNat 7)=false:=rfl
    simp only [Bool.false_eq_true,if_false,↓Qg,z1,z2,↓Qq,↓QO,↓Qr,↓QS,↓QF,↓Qm,↓Qa]
    exact hk
end
end Go.Proofs.YtfgdelkdmdmfgaaDoor
namespace Go.Proofs.YtfgdelkdmdmfgaaDoor
open Go Go.Am
set_option linter.all false
set_option maxRecDepth 100000
abbrev T26:Int→H→(Str→Int→H→Prop)→Prop:=Qeg J0 (Qec J0 (Qeb J0 (QdN J0 (Qca J0) s78 s79))) pRep
abbrev T33:AV→H→(AV→Int→Int→H→Prop)→Prop:=Qcc J0 pRd
abbrev T34:AV→H→(AV→Int→H→Prop)→Prop:=Qed J0 (s9G J0 (Nb J0)) (N3 J0 (G8 J0 (Gs J0))) (Qcb J0 (N3 J0 (G8 J0 (Gs J0))))
theorem neI_of {a b:Int} (h:a=b):(Bool.not (eqI a b))=false:=by subst h;rw [Zp.2 rfl];rfl
section
variable {KI:Int→H→Prop} {KB:Bool→H→Prop} {KA:AV→Int→H→Prop} {KV:AV→H→Prop}
theorem t18 {h:H} {g:FsG} {fs:Fs} {cs:Cs} {n:Nat} (f:FsAt h g fs) (fit:fs.Fits Qe) (o:LgOn cs fs) (h1:1≤n) (h2:n < 100) (hk:∀ h',FsAt h' g fs→Only noL h h'→KB (decide (n≤cs.length)) h'):Qak J0 s10 T26 (.ptr g.id 0) (Int.ofNat n) h KB:=by
  unfold Qak
  refine t26 h1 h2 ?_
  rw [show (Bool.not (eqI (Int.ofNat 0) (Int.ofNat 0)))=false from rfl,Qg,Qr]
  refine p20 f fit fun v h' f1 o1 _=>?_
  rw [Qg]
  by_cases hn:n≤cs.length
  · have e : (fs.read (QT n)).2 = 0 := by
      have:=o.read_in (i:=n - 1) (by omega)
      rw [show n - 1+1=n from by omega] at this
      rw [this]
    rw [e]
    have hk:=hk h' f1 o1
    rw [decide_eq_true hn] at hk
    exact hk
  · have e : (fs.read (QT n)).2 = 4 := by rw [o.read_no (n := n) (by omega) h2]
    rw [e]
    have hk:=hk h' f1 o1
    rw [decide_eq_false hn] at hk
    exact hk
def BOk (b:Bt):Prop:=1≤b.1∧b.1≤1073741824∧Y6 b.2=Int.ofNat 0∧(YK b.1 b.2).length≤1048576
def V6 (ws:List Bt):List (List UInt8):=ws.map fun b=>YK b.1 b.2
def ZC (ws:List Bt):List UInt8:=(V6 ws).flatMap Qs
theorem V5 (ws:List Bt):(V6 ws).length=ws.length:=by unfold V6;rw [List.length_map]
theorem Qao {α:Type} {f:α→List AV} {es:Nat} (hf:∀ a,(f a).length=es) {h:H} {v:AV} {l:List α} (q:RowAt f es h v l) {i:Nat} (hi:i < l.length) :
    ∃ id o, (∀ (kk : IntKind) (k : AV → Prop), ixK es v (.int kk (Int.ofNat i)) k = k (.ptr id o)) ∧
      (∀ (h':H) (off:Nat) (s:Int) (k:Int→Prop),(∀ id,id < h.next→h'.get id=h.get id)→off < es→Q8 (f l[i]) off=some (.int .i64 s)→ldI .i64 (.ptr id (Nat.add o off)) h' k=k s) ∧
      (∀ (h':H) (off:Nat) (s:AV) (k:AV→Prop),(∀ id,id < h.next→h'.get id=h.get id)→off < es→Q8 (f l[i]) off=some s→ldV (.ptr id (Nat.add o off)) h' k=k s):=by
  obtain ⟨id,o,m,t,cs,q1,q2,q3,q4⟩:=q.ix hf hi
  exact ⟨id,o,q1,fun h' off s k hg ho e=>Q9 ((hg id q3).trans q2) ((Uw q4 ho).trans e) k,fun h' off s k hg ho e=>Q1 ((hg id q3).trans q2) ((Uw q4 ho).trans e) k⟩
theorem XE {v:AV} {i j:Nat} (a:Yp v i) (b:Yp v j):i=j:=by
  obtain ⟨o,n,c,e,x,rfl⟩:=a
  exact (ZP.1 b).symm
theorem wrc_apart {h:H} {u:AV} {l:List Wt} (q:RowP wrc 3 h u l) (hl:l≠[]) {v:AV} {N:Nat} {es:List Be} (g:Grow be 62 2 N h v es) {j:Nat} (b:Yp u j):¬ Yp v j:=by
  intro c
  rcases q with ⟨_,e⟩ | ⟨id,c',ex,m,t,r,rfl,q2,q3⟩
  · exact hl e
  rcases g with ⟨rfl,_⟩ | ⟨id2,m2,rfl,_,_,g4⟩
  · exact Vr _ c
  obtain rfl:=ZP.1 b
  obtain rfl:=ZP.1 c
  rw [q2] at g4
  injection g4 with _ _ g4
  cases l with
  | nil=>exact hl rfl
  | cons a l =>
    cases es with
    | nil=>cases g4
    | cons e es=>injection g4 with g4 _;cases g4
theorem DQ {α:Type} {f:α→List AV} {e es n:Nat} {h:H} {v:AV} {l:List α} (g:Grow f e es n h v l) {i:Nat} (b:Yp v i):n≤i∧i < h.next:=by
  rcases g with ⟨rfl,_⟩ | ⟨id,m,rfl,g2,g3,g4⟩
  · exact absurd b (Vr i)
  · rw [ZP.1 b];exact ⟨g2,g3⟩
theorem t19 {N : Nat} {h : H} {g : FsG} {fs : Fs} {cs : Cs} {n : Nat} {v : AV} {l ws : List Bt} {t : List UInt8} (f : FsAt h g fs) (fit : fs.Fits Qe) (o : LgOn cs fs) (h1 : 1 ≤ n) (h2 : n ≤ cs.length) (hd : (cs[n - 1]'(by omega)).2 = ZC ws ++ t) (ht : Qfm t)
    (hw:∀ b∈ws,BOk b) (hs:∀ (i:Nat) (hi:i < (l++ws).length),(l++ws)[i].1=i+1) (hsz:(ZC ws++t).length≤100000000000) (hn:(l++ws).length≤1000) (hb:h.base≤N) (hN:N≤h.next) (hg:∀ i,Own g i→i < N) (r:Lb N h v l)
    (hk:∀ v' h',FsAt h' g fs→Lb N h' v' (l++ws)→Only (fun i=>N≤i) h h'→KA v' (Int.ofNat 0) h'):Nc J0 s10 T26 T33 T34 (.ptr g.id 0) (Int.ofNat n) v h KA:=by
  have few:=o.lg.few
  unfold Nc
  refine t26 h1 (by omega) ?_
  refine p20 f fit fun v5 h4 f4 o4 q5=>?_
  have erd:=o.read_in (i:=n - 1) (by omega)
  rw [show n - 1+1=n from by omega] at erd
  rw [erd] at q5 ⊢
  dsimp only at q5 ⊢
  rw [hd] at q5
  have n4:=o4.next
  have b4:=o4.base
  rw [show (Bool.not (eqI (0:Int) (Int.ofNat 0)))=false from rfl,Qg,Qr]
  have hnn:ws.length≤1000:=by rw [List.length_append] at hn;omega
  have hl0:l.length≤1000:=by rw [List.length_append] at hn;omega
  refine t33s (rs:=V6 ws) (t:=t) q5 ht (fun r hr=>?_) (by omega) hsz (by rw [V5];omega) fun v9 x10 x11 h8 R8 e8 l8=>?_
  · obtain ⟨b, hb, rfl⟩ := List.mem_map.1 hr
    exact (hw b hb).2.2.2
  have n8:=l8.next
  have b8:=l8.base
  have f8:=f4.only l8.only fun _ _=>id
  have e6:eqI x11 (Int.ofNat 6)=false:=by rcases e8 with rfl | rfl <;> rfl
  rw [e6,Qg,Qr]
  obtain ⟨ls,gr,hll,hsl⟩:=R8
  rw [V5] at hll
  rw [gr.row.len]
  have r8:Lb N h8 v l:=(r.low (Vh o4)).low l8
  have Ob8:Only (fun i=>N≤i) h h8:=(o4.trans l8.only fun _ _=>id).imp fun _ _ c=>c.elim
  have nb8:∀ i,Yp v i→i < h4.next:=fun i hi=>by
    obtain ⟨es,gg,_⟩:=r
    rcases gg with ⟨rfl,_⟩ | ⟨id,m,rfl,g2,g3,g4⟩
    · exact absurd hi (Vr i)
    · rw [ZP.1 hi];omega
  refine YA ws.length (fun i x h'=>∃ w,x=(w,v9,.int .i64 (Int.ofNat ls.length),.int .i64 (Int.ofNat i),())∧FsAt h' g fs∧Lb N h' w (l++ws.take i)∧Only (fun i=>N≤i) h h'∧h8.next≤h'.next∧(∀ j,h4.next≤j→j < h8.next→h'.get j=h8.get j)∧BK h8 h'∧(∀ j,Yp w j→j < h4.next∨h8.next≤j)) (by omega) ?_ ?_ ⟨v,by rw [hll],f8,by simpa using r8,Ob8,Nat.le_refl _,fun _ _ _=>rfl,fun i t f g s e=>e,fun j hj=>.inl (nb8 j hj)⟩
  · rintro i x h16 self hi ⟨w, rfl, f16, r16, o16, n16, g16, bk16, wb16⟩ hs'
    dsimp only
    have b16:=o16.base
    have nn16:=o16.next
    rw [Qa,Qa,Qg,ZA (by omega),QO]
    have gr16:Grow sl1 39 1 h4.next h16 v9 ls:=by
      rcases gr with gr | ⟨id,m,g1,g2,g3,g4⟩
      · exact .inl gr
      · exact .inr ⟨id,m,g1,g2,by omega,(g16 id g2 g3).trans g4⟩
    obtain ⟨pid,po,p1,p2,p3⟩:=Qao Qag gr16.row (i:=i) (by omega)
    rw [p1]
    show ldV (.ptr pid (Nat.add po 0)) h16 _
    rw [p3 h16 0 (ls[i]'(by omega)).1 _ (fun _ _=>rfl) (by omega) rfl]
    have q22:SlB h16 (ls[i]'(by omega)).1 (YK ws[i].1 ws[i].2):=by
      have:=(hsl i (by omega) (by rw [V5];exact hi)).bk bk16
      have e:(V6 ws)[i]'(by rw [V5];exact hi)=YK ws[i].1 ws[i].2:=by unfold V6;rw [List.getElem_map]
      rw [e] at this;exact this
    have ok:=hw _ (List.getElem_mem hi)
    refine t10 q22 (by omega) (by have:=ok.2.2.2;omega) fun v24 x25 h23 l23 d23=>?_
    rw [dec_enc ok.1 ok.2.1 ok.2.2.1] at d23
    obtain ⟨w2,rfl,rfl,r2⟩:=d23
    have n23:=l23.next
    have b23:=l23.base
    have rone:ZB w2=true:=by
      rcases r2 with ⟨rfl,_⟩ | ⟨id,c,ex,m,t,rr,rfl,_⟩ <;> rfl
    refine Zg fun h27 o27 n27 g27=>?_
    show stN 2 _ [.int .i64 (Int.ofNat ws[i].1),w2] _ _
    refine De g27 rfl (by show (Bool.rec (motive:=fun _=>Bool) false (Bool.rec (motive:=fun _=>Bool) false true (ZB w2)) true:Bool)=true;rw [rone]) rfl (by rw [o27.base];omega) fun h28 o28 n28 g28=>?_
    have O28:Only noL h16 h28:=((l23.only.trans o27 fun _ _=>id).trans o28 fun j hj e=>by omega)
    have B28:=O28.base
    have N28:=O28.next
    obtain ⟨es,gw,ew⟩:=r16.low (Vh O28)
    have el:es.length=(l++ws.take i).length:=ew.1
    have hlt:(l++ws.take i).length=l.length+i:=by rw [List.length_append,List.length_take];omega
    have LK:=gw.row.len
    have S1:∀ k,ldI .i64 (.ptr h23.next (Nat.add 0 0)) h28 k=k (Int.ofNat ws[i].1):=fun k=>Q9 g28 rfl k
    have z1:Bool.not (eqI (Int.ofNat 0) (Int.ofNat 0))=false:=rfl
    have next:ldN 2 (.ptr h23.next 0) h28 (fun l97=>
        ck (Nat.beq (List.length l97) 2) (op' (Q7 0 l97 [(.int .i64 0),(.nils)]) fun l100=>
        Qz (.cells false 62 l100) h28 fun n98 h99=>
        apC 62 2 32 w (AV.slice n98 0 1 1 2 true) h99 fun v101 h102=>
        self (v101,v9,.int .i64 (Int.ofNat ls.length),(AV.int .i64 (Qd .i64 (Int.add (Int.ofNat i) (Int.ofNat 1)))),()) [] h102)):=by
      rw [YB (l:=[.int .i64 (Int.ofNat ws[i].1),w2]) g28 rfl]
      refine Qp rfl ?_
      rw [show Q7 0 [AV.int .i64 (Int.ofNat ws[i].1),w2] [.int .i64 0,.nils]=some [.int .i64 (Int.ofNat ws[i].1),w2] from rfl,Qy]
      refine Zg fun h99 o99 n99 g99=>?_
      have b99:=o99.base
      refine ap_growO (a:=(⟨ws[i].1,w2,rone⟩:Be)) (gw.keep (Vh o99) (Nat.le_refl _)) X0 be_ones g99 (by omega) (by omega) (by unfold Qe;omega) fun v101 h102 gr102 o102 k102=>?_
      have n102:=o102.next
      have O99:Only noL h16 h99:=O28.trans o99 fun _ _=>id
      have O102:Only (Yp w) h16 h102:=(O99.imp fun _ _ c=>c.elim).trans o102 fun _ _ c=>c
      have hwN:∀ j,Yp w j→N≤j∧j < h28.next:=fun j hj=>DQ gw hj
      have ne:ws[i].2≠[]:=fun e=>by have:=ok.2.2.1;rw [e] at this;exact absurd this (by decide)
      have r28:RowP wrc 3 h28 w2 ws[i].2:=r2.low (Vh (o27.trans o28 fun j hj e=>by omega)) (Nat.le_refl _)
      have et:l++ws.take (i+1)=(l++ws.take i)++[ws[i]]:=by rw [List.take_succ_eq_append_getElem hi,List.append_assoc]
      rw [ZE,Yg _ (by omega)]
      refine hs' _ _ ⟨v101,rfl,f16.only O102 fun j hj hw=>by have:=hg j hj;have:=(hwN j hw).1;omega,?_,o16.trans O102 fun j _ hw=>(hwN j hw).1,by omega,fun j j1 j2=>?_,fun j t f g s e=>(O102.byt j t f g s ((bk16 j t f g s e).trans e.symm ▸ (bk16 j t f g s e))).trans (bk16 j t f g s e),fun j hj=>.inr (by have:=XE hj k102;omega)⟩
      · rw [et]
        refine ⟨es++[(ws[i].1,⟨w2,rone⟩)],gr102,Els.snoc (ew.onl ((o99.imp fun _ _ c=>c.elim).trans o102 fun _ _ c=>c) (fun _ c=>c) fun j hj c=>by have:=XE c k102;omega) rfl ?_ fun j hj c=>?_⟩
        · exact r28.onl ((o99.imp fun _ _ c=>c.elim).trans o102 fun _ _ c=>c) fun j hj=>wrc_apart r28 ne gw hj
        · have := XE c k102
          have:=r28.blk hj
          omega
      · rw [O102.get j (by omega) (fun hw => by rcases wb16 j hw with c | c <;> omega)]
        exact g16 j j1 j2
    by_cases h0:l.length+i=0
    · have z2 : ltI (Int.ofNat 0) (Int.ofNat es.length) = false := Za (by omega)
      simp only [↓Qg,z1,z2,↓Qq,↓Qdn,↓QO,↓Qr,↓QS,↓QF,↓Qm,↓Qa,↓Zc,↓LK,↓Qo]
      exact next
    · have z2 : ltI (Int.ofNat 0) (Int.ofNat es.length) = true := ZA (by omega)
      obtain ⟨qid,qo,p1',p2',p3'⟩:=Qao X0 gw.row (i:=es.length - 1) (by omega)
      have I1:∀ k,ixK 2 w (.int .i64 (Int.ofNat (es.length - 1))) k=k (.ptr qid qo):=p1' _
      have S2:∀ k,ldI .i64 (.ptr qid (Nat.add qo 0)) h28 k=k (Int.ofNat (es[es.length - 1]'(by omega)).1):=fun k=>p2' h28 0 _ k (fun _ _=>rfl) (by omega) rfl
      have e3:(es[es.length - 1]'(by omega)).1=l.length+i:=by
        rw [(ew.2 (es.length - 1) (by omega) (by omega)).1]
        have:=hs (es.length - 1) (by rw [List.length_append];omega)
        have e:(l++ws)[es.length - 1]'(by rw [List.length_append];omega)=(l++ws.take i)[es.length - 1]'(by omega):=by
          have:l++ws=(l++ws.take i)++ws.drop i:=by rw [List.append_assoc,List.take_append_drop]
          rw [List.getElem_of_eq this,List.getElem_append_left]
        rw [← e,this];omega
      have e4:ws[i].1=l.length+i+1:=by
        have:=hs (l.length+i) (by rw [List.length_append];omega)
        rw [List.getElem_append_right (by omega)] at this
        simpa using this
      have z3:Qd .i64 (Int.sub (Int.ofNat es.length) (Int.ofNat 1))=Int.ofNat (es.length - 1):=by rw [Kt _ _ (by omega),Yg _ (by omega)]
      have z4:Qd .i64 (Int.add (Int.ofNat (es[es.length - 1]'(by omega)).1) (Int.ofNat 1))=Int.ofNat ws[i].1:=by rw [e3,ZE,Yg _ (by omega),e4]
      have z5:Bool.not (eqI (Int.ofNat ws[i].1) (Int.ofNat ws[i].1))=false:=neI_of rfl
      simp only [↓Qg,z1,z2,↓Qq,↓Qdn,↓QO,↓Qr,↓QS,↓QF,↓Qm,↓Qa,↓Zc,↓LK,↓Qw,↓S1,↓z3,↓I1,↓S2,↓z4,↓Qo,↓z5]
      exact next
  · rintro x h16 self ⟨w, rfl, f16, r16, o16, n16, g16, bk16, wb16⟩
    dsimp only
    rw [Qa,Qa,Qg,hll,Za (Nat.le_refl _),Qr]
    rw [List.take_length] at r16
    exact hk _ _ f16 r16 o16
end
end Go.Proofs.YtfgdelkdmdmfgaaDoor
