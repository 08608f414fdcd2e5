import Derived.Test.YtfgdelkdmdmfgaaDoorWaI
namespace Go.Am
open Go
set_option linter.all false
def BK (h h':H):Prop:=∀ (id t f:Nat) (g:Bool) (x:Str),h.get id=.bytes t f g x→h'.get id=.bytes t f g x
theorem BK.trans {h h1 h2:H} (a:BK h h1) (b:BK h1 h2):BK h h2:=fun id t f g x e=>b id t f g x (a id t f g x e)
theorem BK.low {h h':H} {n:Nat} (l:Low n h h') (hn:h.next≤n):BK h h':=fun id t f g x e=>(l.get id (Nat.lt_of_lt_of_le (H.lt_of_live (by rw [e];rfl)) hn)).trans e
theorem BK.push (h:H) (b:Blk):BK h (QI h b):=BK.low (Low.push h.next h b (Nat.le_refl _)) (Nat.le_refl _)
theorem BK.put (h:H) {i:Nat} {b:Blk} (hi:i < h.next) (hn:∀ (t f:Nat) (g:Bool) (x:Str),h.get i≠.bytes t f g x):BK h (Zt h i b):=fun id t f g x e=>by
  rw [QU _ _ _ hi,if_neg (by rintro rfl;exact hn t f g x e)];exact e
theorem SlB.bk {h h':H} {v:AV} {b:List UInt8} (s:SlB h v b) (c:BK h h'):SlB h' v b:=s.same fun id t f g x e=>(c id t f g x e).trans e.symm
theorem NW {α:Type} {f:α→List AV} {e es bytes n:Nat} {h:H} {v:AV} {l:List α} {a:α} {j c tj:Nat} {mj ex:Bool} {k:AV→H→Prop} (g:Grow f e es n h v l) (hf:∀ a,(f a).length=es) (h1:∀ a,ZV (f a)=true)
    (hj:h.get j=.cells mj tj (f a)) (hb:h.base≤n) (hn:n≤h.next) (hl:(l.length+1) * bytes≤Qe)
    (hk:∀ v' h',Grow f e es n h' v' (l++[a])→Low n h h'→BK h h'→k v' h'):apC e es bytes v (.slice j 0 1 c es ex) h k:=by
  unfold apC Qb8
  simp only [Zu,hj,Z6]
  have e1:Z4 (Nat.mul 1 es) (Yh 0 (f a))=some (f a):=by
    rw [WM,List.drop_zero,show Nat.mul 1 es=es from Nat.one_mul es,Y4 (by rw [hf];exact Nat.le_refl _),List.take_of_length_le (by rw [hf];exact Nat.le_refl _)]
  rw [e1,Qy]
  rcases g with ⟨rfl,rfl⟩ | ⟨id,m,rfl,g2,g3,g4⟩
  · simp only [W9]
    rw [show Nat.beq 1 0=false from rfl,Qr]
    refine Qp ((Qk _ _).2 ?_) ?_
    · simpa using hl
    · rw [QW]
      refine hk _ _ (.inr ⟨h.next,false,rfl,hn,Nat.lt_succ_self _,?_⟩) (Low.push _ _ _ hn) (BK.push h _)
      rw [ZG,if_pos rfl];simp
  · simp only [Zu, g4, Z6, Zb]
    rw [show Nat.add l.length 1=l.length+1 from rfl]
    have e2:Nat.ble (l.length+1) l.length=false:=by
      cases q:Nat.ble (l.length+1) l.length
      · rfl
      · rw [Qk] at q;omega
    rw [e2,Qr]
    have hlen:=ZS hf l
    have e3:Z4 (Nat.mul l.length es) (Yh 0 (l.flatMap f))=some (l.flatMap f):=by
      rw [WM,List.drop_zero,Y4 (by rw [hlen];exact Nat.le_refl _),List.take_of_length_le (by rw [hlen];exact Nat.le_refl _)]
    refine Qp ((Qk _ _).2 hl) ?_
    rw [e3,Qy,KM,Qr]
    refine Qp ((Nat.beq_eq ▸ rfl:Nat.beq es es=true)) (Qp ((Nat.beq_eq ▸ rfl:Nat.beq e e=true)) (Qp (h1 a) ?_))
    rw [YX _ g3 (by omega),QW]
    have lo:Low n h (QI (Zt h id .dead) (.cells true e (l.flatMap f++f a))):=(Low.put .dead g3 g2).trans (Low.push _ _ _ (by rw [WG];exact hn))
    refine hk _ _ (.inr ⟨h.next,true,?_,hn,Nat.lt_succ_self _,?_⟩) lo ((BK.put h g3 (by rw [g4];intro t f g x e;cases e)).trans (BK.push _ _))
    · rw [List.length_append];rfl
    · rw [ZG,WG,if_pos rfl];simp
end Go.Am
namespace Go.Proofs.YtfgdelkdmdmfgaaDoor
open Go Go.Am
set_option linter.all false
set_option maxRecDepth 100000
noncomputable def Z9:Nat→St→List Wt→St × List Wt
  | 0,s,acc=>(s,acc)
  | n + 1, s, acc => if s.2 = true then (s, acc) else
      if (QM 1 s).1=1 then Z9 n (Zv 512 (QM 1 s).2).2 (acc++[((Zv 512 (QM 1 s).2).1,[],true)])
      else Z9 n (Zv 4096 (Zv 512 (QM 1 s).2).2).2 (acc++[((Zv 512 (QM 1 s).2).1,(Zv 4096 (Zv 512 (QM 1 s).2).2).1,false)])
theorem loopS_bad (n:Nat) {s:St} (h:s.2=true) (acc:List Wt):Z9 n s acc=(s,acc):=by
  cases n with
  | zero=>rfl
  | succ n=>unfold Z9;rw [if_pos h]
noncomputable def XS (sq:Nat) (r:St × List Wt):Option (Nat × List Wt):=if r.1.2=true∨r.1.1≠[]∨sq < 1∨Y6 r.2≠Int.ofNat 0 then none else some (sq,r.2)
noncomputable def decS (b:List UInt8):Option (Nat × List Wt) :=
  XS (QM 1073741824 (b,false)).1 (Z9 (QM 64 (QM 1073741824 (b,false)).2).1 (QM 64 (QM 1073741824 (b,false)).2).2 [])
def batAV (s:Nat) (w:AV):AV:=.agg [.int .i64 (Int.ofNat s),w]
def DecP (h:H) (o:Option (Nat × List Wt)) (v:AV) (e:Int):Prop:=match o with
  | some (s,l)=>∃ w,v=batAV s w∧e=Int.ofNat 0∧RowP wrc 3 h w l
  | none=>v=batAV 0 .nils∧e=Int.ofNat 5
theorem NH {α:Type} {f:α→List AV} {e es n i:Nat} {h h':H} {v:AV} {l:List α} (g:Grow f e es n h v l) (u:Upd i h h') (hi:i < n):Grow f e es n h' v l:=by
  rcases g with g | ⟨id,m,g1,g2,g3,g4⟩
  · exact .inl g
  · exact .inr ⟨id,m,g1,g2,by rw [u.next];exact g3,(u.get id (by omega)).trans g4⟩
theorem grow_put {α:Type} {f:α→List AV} {e es n M:Nat} {h:H} {v:AV} {l:List α} {b:Blk} (g:Grow f e es n h v l) (hM:M < h.next) (hne:∀ (id o c d e:Nat) (x:Bool),v=.slice id o c d e x→id≠M):Grow f e es n (Zt h M b) v l:=by
  rcases g with g | ⟨id,m,g1,g2,g3,g4⟩
  · exact .inl g
  · exact .inr ⟨id,m,g1,g2,g3,by rw [QU _ _ _ hM,if_neg (hne _ _ _ _ _ _ g1)];exact g4⟩
theorem QbG {α:Type} {f:α→List AV} {e es n:Nat} {h:H} {v:AV} {l:List α} (g:Grow f e es n h v l):ZB v=true:=by
  rcases g with ⟨rfl,_⟩ | ⟨id,m,rfl,_⟩ <;> rfl
theorem wrc_ones (t:Wt):ZV (wrc t)=true:=rfl
structure DSt (h h':H) (N sq:Nat) (st:St) (acc:List Wt) (wv:AV):Prop where
  low:Low h.next h h'
  nx:N≤h'.next
  g1:h'.get h.next=.cells false 62 [.int .i64 (Int.ofNat 0),.nils]
  rd:Kl h' (h.next+1) st
  g7:h'.get (h.next+2)=.cells false 62 [.int .i64 (Int.ofNat sq),wv]
  gr:Grow wrc 48 3 N h' wv acc
theorem Kl.low {h h':H} {id n:Nat} {s:St} (q:Kl h id s) (lo:Low n h h') (hn:h.next≤n):Kl h' id s:=by
  obtain ⟨v,g,sb⟩:=q
  exact ⟨v,(lo.get id (Nat.lt_of_lt_of_le (H.lt_of_live (by rw [g];rfl)) hn)).trans g,sb.low lo hn⟩
theorem Kl.upd {h h':H} {id i:Nat} {s:St} {m:Bool} {t:Nat} {cs:List AV} (q:Kl h id s) (u:Upd i h h') (hi:id≠i) (g:h.get i=.cells m t cs):Kl h' id s:=by
  obtain ⟨v,g',sb⟩:=q
  exact ⟨v,(u.get id hi).trans g',Ku sb u g⟩
theorem DSt.look {h h1 h':H} {N sq:Nat} {st:St} {acc:List Wt} {wv:AV} (d:DSt h h1 N sq st acc wv) (lo:Low h1.next h1 h'):DSt h h' N sq st acc wv:=by
  have l:=H.lt_of_live (h:=h1) (id:=h.next) (by rw [d.g1];rfl)
  have l7:=H.lt_of_live (h:=h1) (id:=h.next+2) (by rw [d.g7];rfl)
  exact ⟨d.low.trans (lo.down (by omega)),Nat.le_trans d.nx lo.next,(lo.get _ l).trans d.g1,d.rd.low lo (Nat.le_refl _),(lo.get _ l7).trans d.g7,d.gr.keep lo (Nat.le_refl _)⟩
theorem DSt.read {h h1 h':H} {N sq:Nat} {st st':St} {acc:List Wt} {wv:AV} (d:DSt h h1 N sq st acc wv) (hN:N=h.next+3) (q:Kl h' (h.next+1) st') (u:Upd (h.next+1) h1 h'):DSt h h' N sq st' acc wv :=
  ⟨d.low.trans (u.low (by omega)),by rw [u.next];exact d.nx,(u.get _ (by omega)).trans d.g1,q,(u.get _ (by omega)).trans d.g7,NH d.gr u (by omega)⟩
section
variable {KD:AV→Int→H→Prop}
theorem t10 {b : List UInt8} {a : AV} {h : H} (sa : SlB h a b) (hb : h.base ≤ h.next) (hl : b.length ≤ 140737488351232) (hk : ∀ v e h', Low h.next h h' → DecP h' (decS b) v e → KD v e h') :
    Qed J0 (s9G J0 (Nb J0)) (N3 J0 (G8 J0 (Gs J0))) (Qcb J0 (N3 J0 (G8 J0 (Gs J0)))) a h KD:=by
  unfold Qed
  rw [QW]
  have l2:=Low.push h.next h (.cells false 62 [.int .i64 (Int.ofNat 0),.nils]) (Nat.le_refl _)
  have g2:=WU h (.cells false 62 [.int .i64 (Int.ofNat 0),.nils])
  have n2:(QI h (.cells false 62 [.int .i64 (Int.ofNat 0),.nils])).next=h.next+1:=rfl
  show ck (ZB a) (Qz (.cells false 111 [a,.int .i64 (Int.ofNat 0)]) (QI h (.cells false 62 [.int .i64 (Int.ofNat 0),.nils])) _)
  generalize QI h (.cells false 62 [.int .i64 (Int.ofNat 0),.nils])=h2 at l2 g2 n2 ⊢
  have b2:=l2.base
  refine Qp sa.one ?_
  rw [QW]
  have l4:=Low.push h2.next h2 (.cells false 111 [a,.int .i64 (Int.ofNat 0)]) (Nat.le_refl _)
  have g4:=WU h2 (.cells false 111 [a,.int .i64 (Int.ofNat 0)])
  have n4:(QI h2 (.cells false 111 [a,.int .i64 (Int.ofNat 0)])).next=h2.next+1:=rfl
  generalize QI h2 (.cells false 111 [a,.int .i64 (Int.ofNat 0)])=h4 at l4 g4 n4 ⊢
  have b4:=l4.base
  rw [n2] at g4 ⊢
  have q4:Kl h4 (h.next+1) (b,false):=⟨a,g4,(sa.low l2 (Nat.le_refl _)).low l4 (Nat.le_refl _)⟩
  unfold decS at hk
  obtain ⟨m1,_⟩:=VZ 1073741824 (b,false)
  have m1:(QM 1073741824 (b,false)).2.1.length≤b.length:=m1
  refine t32 (mo:=1073741824) q4 (by omega) (by omega) hl (by decide) fun h5 q5 u5=>?_
  generalize QM 1073741824 (b,false)=r1 at q5 m1 hk ⊢
  obtain ⟨sq,s1⟩:=r1
  have q5:Kl h5 (h.next+1) s1:=q5
  have m1:s1.1.length≤b.length:=m1
  have n5:=u5.next
  have b5:=u5.base
  have g5:h5.get h.next=.cells false 62 [.int .i64 (Int.ofNat 0),.nils]:=(u5.get _ (by omega)).trans ((l4.get _ (by omega)).trans g2)
  rw [QW]
  show stN 2 _ [.int .i64 (Int.ofNat sq),.nils] _ _
  rw [st2_new rfl (by omega)]
  have l9:=Low.push h5.next h5 (.cells false 62 [.int .i64 (Int.ofNat sq),.nils]) (Nat.le_refl _)
  have g9:=WU h5 (.cells false 62 [.int .i64 (Int.ofNat sq),.nils])
  have n9:(QI h5 (.cells false 62 [.int .i64 (Int.ofNat sq),.nils])).next=h5.next+1:=rfl
  generalize QI h5 (.cells false 62 [.int .i64 (Int.ofNat sq),.nils])=h9 at l9 g9 n9 ⊢
  have e57:h5.next=h.next+2:=by omega
  rw [e57] at g9 ⊢
  have b9:=l9.base
  have d9:DSt h h9 (h.next+3) sq s1 [] .nils:=⟨(l2.trans (l4.down (by omega))).trans ((u5.low (by omega)).trans (l9.down (by omega))),by omega,(l9.get _ (by omega)).trans g5,q5.low l9 (Nat.le_refl _),g9,.nil _ _ _ _ _⟩
  obtain ⟨m2,m3⟩:=VZ 64 s1
  refine t32 (mo:=64) d9.rd (by omega) (by omega) (by omega) (by decide) fun h10 q10 u10=>?_
  have d10:=d9.read rfl q10 u10
  have hk:∀ v e h',Low h.next h h'→DecP h' (XS sq (Z9 (QM 64 s1).1 (QM 64 s1).2 [])) v e→KD v e h':=hk
  generalize QM 64 s1=r2 at d10 m2 m3 hk ⊢
  obtain ⟨n0,s2⟩:=r2
  have d10:DSt h h10 (h.next+3) sq s2 [] .nils:=d10
  have m2:s2.1.length≤s1.1.length:=m2
  have m3:n0≤64:=m3
  have hk:∀ v e h',Low h.next h h'→DecP h' (XS sq (Z9 n0 s2 [])) v e→KD v e h':=hk
  clear q10 u10 q5 g9 g5 d9
  refine W0 (fun c w d h'=>∃ st acc wv,w=(.ptr h.next 0,.ptr (h.next+1) 0,.ptr (h.next+2) 0,.int .i64 (Int.ofNat c),())∧d=[]∧Z9 c st acc=Z9 n0 s2 []∧DSt h h' (h.next+3) sq st acc wv∧acc.length+c≤64∧st.1.length≤b.length) ?_ (n:=n0) (by unfold fuel;omega)
    ⟨s2,[],.nils,rfl,rfl,rfl,d10,by simpa using m3,by omega⟩
  rintro c self w d h' ⟨st,acc,wv,rfl,rfl,hL,D,hc,hst⟩ hs
  have hbase:=D.low.base
  have hnext:=D.nx
  have E1:∀ k,ldI .i64 (.ptr (h.next+1) (Nat.add 0 1)) h' k=k (UB st.2):=fun k=>by obtain ⟨v,g,_⟩:=D.rd;exact Q9 g rfl k
  have H1:h.next < h'.next:=H.lt_of_live (by rw [D.g1];rfl)
  have badE:XS sq (st,acc)=none→Z9 n0 s2 []=(st,acc)→∀ (G:Gam) (h1:H),DSt h h1 (h.next+3) sq st acc wv→stN 2 (.ptr h.next 0) [.int .i64 (Int.ofNat 0),.nils] h1 (fun h127=>Qu G [] h127 fun h128=>ldN 2 (.ptr h.next 0) h128 fun l129=>KD (.agg l129) (Int.ofNat 5) h128):=fun he hr G h1 D1=>by
    have H2:h.next < h1.next:=H.lt_of_live (by rw [D1.g1];rfl)
    rw [Qaf (n:=2) (xs:=[.int .i64 (Int.ofNat 0),.nils]) D1.g1 (o:=0) rfl rfl rfl H2 (by rw [D1.low.base];exact hb)]
    show ldN 2 (.ptr h.next 0) (Zt h1 h.next (.cells false 62 [.int .i64 (Int.ofNat 0),.nils])) _
    rw [YB (l:=[.int .i64 (Int.ofNat 0),.nils]) (by rw [QU _ _ _ H2,if_pos rfl]) rfl]
    refine hk _ _ _ (D1.low.trans (.put _ H2 (Nat.le_refl _))) ?_
    rw [hr,he]
    exact ⟨rfl,rfl⟩
  have okE:XS sq (st,acc)=some (sq,acc)→Z9 n0 s2 []=(st,acc)→∀ (G:Gam) (h1:H),DSt h h1 (h.next+3) sq st acc wv→ldN 2 (.ptr (h.next+2) 0) h1 (fun l130=>stN 2 (.ptr h.next 0) l130 h1 fun h131=>Qu G [] h131 fun h132=>ldN 2 (.ptr h.next 0) h132 fun l133=>KD (.agg l133) (Int.ofNat 0) h132):=fun he hr G h1 D1=>by
    have H2:h.next < h1.next:=H.lt_of_live (by rw [D1.g1];rfl)
    have W1:=QbG D1.gr
    have W2:ZV [.int .i64 (Int.ofNat sq),wv]=true:=by
      show (Bool.rec (motive:=fun _=>Bool) false (Bool.rec (motive:=fun _=>Bool) false true (ZB wv)) true:Bool)=true
      rw [W1]
    rw [YB D1.g7 (l:=[.int .i64 (Int.ofNat sq),wv]) rfl,Qaf (n:=2) D1.g1 (o:=0) rfl W2 rfl H2 (by rw [D1.low.base];exact hb)]
    show ldN 2 (.ptr h.next 0) (Zt h1 h.next (.cells false 62 [.int .i64 (Int.ofNat sq),wv])) _
    rw [YB (l:=[.int .i64 (Int.ofNat sq),wv]) (by rw [QU _ _ _ H2,if_pos rfl]) rfl]
    refine hk _ _ _ (D1.low.trans (.put _ H2 (Nat.le_refl _))) ?_
    rw [hr,he]
    exact ⟨wv,rfl,rfl,.of (NH D1.gr (.put _ H2) (by omega)).row⟩
  dsimp only
  rw [Qa,Qg]
  by_cases hgo:0 < c∧st.2=false
  rotate_left
  · have hstop : Z9 c st acc = (st, acc) := by
      rcases Nat.eq_zero_or_pos c with h0 | h0
      · subst h0;rfl
      · exact loopS_bad _ (by cases hb2:st.2;exact absurd ⟨h0,hb2⟩ hgo;rfl) _
    have hr:Z9 n0 s2 []=(st,acc):=hL.symm.trans hstop
    have hor:c=0∨(0 < c∧st.2=true):=by
      rcases Nat.eq_zero_or_pos c with h0 | h0
      · exact .inl h0
      · exact .inr ⟨h0,by cases hb2:st.2;exact absurd ⟨h0,hb2⟩ hgo;rfl⟩
    obtain ⟨v3,g3,sb3⟩:=D.rd
    have F1:∀ k,ldI .i64 (.ptr (h.next+1) (Nat.add 0 1)) h' k=k (UB st.2):=fun k=>Q9 g3 rfl k
    have F0:∀ k,ldV (.ptr (h.next+1) (Nat.add 0 0)) h' k=k v3:=fun k=>Q1 g3 rfl k
    have FL:=sb3.len
    have FZ:ltI (Int.ofNat 0) (Int.ofNat st.1.length) = !(decide (st.1=[])):=by
      rw [ZI];cases st.1 <;> simp
    have FS:∀ k,ldI .i64 (.ptr (h.next+2) (Nat.add 0 0)) h' k=k (Int.ofNat sq):=fun k=>Q9 D.g7 rfl k
    have FW:∀ k,ldV (.ptr (h.next+2) (Nat.add 0 1)) h' k=k wv:=fun k=>Q1 D.g7 rfl k
    have FQ:=ZI sq 1
    have z0:ltI (Int.ofNat 0) (Int.ofNat c)=decide (0 < c):=ZI 0 c
    have e1:XS sq (st,acc)=if st.2=true∨st.1≠[]∨sq < 1∨Y6 acc≠Int.ofNat 0 then none else some (sq,acc):=rfl
    have en1:st.2=true→XS sq (st,acc)=none:=fun h=>by rw [e1];exact if_pos (.inl h)
    have en2:¬ st.1=[]→XS sq (st,acc)=none:=fun h=>by rw [e1];exact if_pos (.inr (.inl h))
    have en3:sq < 1→XS sq (st,acc)=none:=fun h=>by rw [e1];exact if_pos (.inr (.inr (.inl h)))
    cases hB:st.2 <;> cases hz:decide (st.1=[]) <;> cases hq:decide (sq < 1) <;> cases hcc:decide (0 < c) <;>
      rw [hB] at F1 <;> rw [hz] at FZ <;> rw [hq] at FQ <;> rw [hcc] at z0 <;>
      simp only [↓Qq,↓QO,↓Qr,↓QS,↓QF,↓Qm,↓Qa,↓QR,↓Qw,↓F1,↓F0,↓FL,↓FS,↓FW,↓FZ,↓FQ,↓z0,↓Qg,↓GO,↓Bool.not_false,↓Bool.not_true] <;>
      first
      | exact (hgo (And.intro (of_decide_eq_true hcc) hB)).elim
      | exact badE (en1 hB) hr _ _ D
      | exact badE (en2 (of_decide_eq_false hz)) hr _ _ D
      | exact badE (en3 (of_decide_eq_true hq)) hr _ _ D
      | (refine t14 (.of D.gr.row) (by omega) fun h1 l1=>?_
         have D1:=D.look l1
         rcases DV acc with h0 | h0
         · rw [h0]
           exact okE (by rw [e1];exact if_neg (by rintro (h | h | h | h);rw [hB] at h;cases h;exact h (of_decide_eq_true hz);exact of_decide_eq_false hq h;exact h h0)) hr _ _ D1
         · rw [h0]
           exact badE (by rw [e1];exact if_pos (.inr (.inr (.inr (fun e=>by rw [e] at h0;cases h0))))) hr _ _ D1)
  obtain ⟨n',rfl⟩:∃ n',c=n'+1:=⟨c - 1,by omega⟩
  have hB:=hgo.2
  rw [hB] at E1
  have z0:ltI (Int.ofNat 0) (Int.ofNat (n'+1))=true:=ZA (Nat.succ_pos _)
  simp only [↓Qq,↓QO,↓Qr,↓QS,↓QF,↓Qm,↓Qa,↓QR,↓Qw,↓E1,↓z0,↓Qg,↓GO,↓Bool.not_false,↓Bool.not_true]
  have a1:=(VZ 1 st).1
  have a2:=(Qa3 512 (QM 1 st).2).1
  refine t32 (mo:=1) D.rd (by omega) (by omega) (by omega) (by decide) fun h1 q1 u1=>?_
  have D1:=D.read rfl q1 u1
  have nx1:=D1.nx
  have bs1:=D1.low.base
  refine t33 (mo:=512) q1 (by omega) (by omega) (by omega) (by decide) fun h2 q2 u2=>?_
  have D2:=D1.read rfl q2 u2
  have nx2:=D2.nx
  have bs2:=D2.low.base
  have hL2:(if (QM 1 st).1=1 then Z9 n' (Zv 512 (QM 1 st).2).2 (acc++[((Zv 512 (QM 1 st).2).1,[],true)])
      else Z9 n' (Zv 4096 (Zv 512 (QM 1 st).2).2).2 (acc++[((Zv 512 (QM 1 st).2).1,(Zv 4096 (Zv 512 (QM 1 st).2).2).1,false)]))=Z9 n0 s2 []:=by
    rw [← hL]
    show _=Z9 (n'+1) st acc
    show _=if st.2=true then _ else _
    rw [hB]
    rfl
  rw [QW,W5]
  generalize (QM 1 st).1=fl at hL2 ⊢
  generalize hst2:Zv 512 (QM 1 st).2=tx at hL2 q2 D2 a2 ⊢
  obtain ⟨key,st2⟩:=tx
  have D2:DSt h h2 (h.next+3) sq st2 acc wv:=D2
  have a2:st2.1.length≤(QM 1 st).2.1.length:=a2
  show stN 3 (.ptr h2.next 0) (wrc (key,[],decide (fl=1))) (QI h2 (.cells false 48 [.str ⟨0,0⟩,.str ⟨0,0⟩,.bool false])) _
  rw [QcN (by omega)]
  have g3:=WU h2 (.cells false 48 (wrc (key,[],decide (fl=1))))
  have l3:=Low.push h2.next h2 (.cells false 48 (wrc (key,[],decide (fl=1)))) (Nat.le_refl _)
  have n3:(QI h2 (.cells false 48 (wrc (key,[],decide (fl=1))))).next=h2.next+1:=rfl
  generalize QI h2 (.cells false 48 (wrc (key,[],decide (fl=1))))=h3 at g3 l3 n3 ⊢
  have D3:=D2.look l3
  refine NE (fun v' d' h''=>∃ st' t M,v'=(.ptr h.next 0,.ptr (h.next+1) 0,.ptr (h.next+2) 0,.int .i64 (Int.ofNat (n'+1)),.ptr M 0,())∧d'=[]∧DSt h h'' (h.next+3) sq st' acc wv∧h''.get M=.cells false 48 (wrc t)∧Z9 n' st' (acc++[t])=Z9 n0 s2 []∧st'.1.length≤b.length) (fun j hj=>?_) ?_
  · rw [Wv g3 (o := 2) (x := decide (fl = 1)) rfl]
    by_cases hf:fl=1
    · rw [decide_eq_true hf] at g3 ⊢
      rw [if_pos hf] at hL2
      exact hj _ _ _ ⟨st2,(key,[],true),h2.next,rfl,rfl,D3,g3,hL2,by omega⟩
    · rw [decide_eq_false hf] at g3 ⊢
      rw [if_neg hf] at hL2
      have b3:=D3.low.base
      have x3:=D3.nx
      show Qcb J0 (N3 J0 (G8 J0 (Gs J0))) (.ptr (h.next+1) 0) (Int.ofNat 4096) h3 _
      refine t33 (mo:=4096) D3.rd (by omega) (by omega) (by omega) (by decide) fun h4 q4 u4=>?_
      have D4:=D3.read rfl q4 u4
      have a4:=(Qa3 4096 st2).1
      have g4:=(u4.get h2.next (by omega)).trans g3
      have hM:h2.next < h4.next:=by rw [u4.next];omega
      rw [JY g4 (o:=1) (x:=.str (Str.of (Zv 4096 st2).1)) rfl rfl hM (by rw [D4.low.base];omega)]
      refine hj _ _ _ ⟨(Zv 4096 st2).2,(key,(Zv 4096 st2).1,false),h2.next,rfl,rfl,?_,by rw [QU _ _ _ hM,if_pos rfl];rfl,hL2,by omega⟩
      refine ⟨D4.low.trans (.put _ hM (by omega)),D4.nx,by rw [QU _ _ _ hM,if_neg (by omega)];exact D4.g1,?_,by rw [QU _ _ _ hM,if_neg (by omega)];exact D4.g7,?_⟩
      · exact D4.rd.upd (.put _ hM) (by omega) g4
      · refine grow_put D4.gr hM fun id o l c e x e1 => ?_
        rcases D2.gr with ⟨h0,_⟩ | ⟨id',m,h0,_,h1,_⟩
        · rw [e1] at h0;cases h0
        · rw [e1] at h0;injection h0 with h0;omega
  · rintro _ _ h4 ⟨st', t, M, rfl, rfl, D4, gM, hL4, hl4⟩
    dsimp only
    rw [Qw,Q1 D4.g7 (o:=Nat.add 0 1) (v:=wv) rfl,YB gM (n:=3) (o:=0) (l:=wrc t) rfl]
    refine Qp rfl ?_
    show op' (some (wrc t)) _
    rw [Qy,QW]
    have l5:=Low.push h4.next h4 (.cells false 48 (wrc t)) (Nat.le_refl _)
    have g5:=WU h4 (.cells false 48 (wrc t))
    have n5:(QI h4 (.cells false 48 (wrc t))).next=h4.next+1:=rfl
    generalize QI h4 (.cells false 48 (wrc t))=h5 at l5 g5 n5 ⊢
    have D5:=D4.look l5
    have b5:=D5.low.base
    have x5:=D5.nx
    refine NW D5.gr Js wrc_ones g5 (by omega) (by omega) (by unfold Qe;omega) fun v6 h6 gr6 l6 bk6=>?_
    have g7:h6.get (h.next+2)=.cells false 62 [.int .i64 (Int.ofNat sq),wv]:=(l6.get _ (by omega)).trans D5.g7
    have b6:=l6.base
    have x6:=l6.next
    have hn7:h.next+2 < h6.next:=by omega
    rw [Qw,JY g7 (o:=Nat.add 0 1) (x:=v6) (QbG gr6) rfl hn7 (by omega),Qa,Qo,dec_i n' (by omega)]
    have u7:=Upd.put (h:=h6) (.cells false 62 [.int .i64 (Int.ofNat sq),v6]) hn7
    refine hs n' _ _ _ (Nat.lt_succ_self _) ⟨st',acc++[t],v6,rfl,rfl,hL4,⟨(D5.low.trans (l6.down (by omega))).trans (u7.low (by omega)),by rw [u7.next];omega,(u7.get _ (by omega)).trans ((l6.get _ (by omega)).trans D5.g1),?_,by rw [QU _ _ _ hn7,if_pos rfl],NH gr6 u7 (by omega)⟩,by rw [List.length_append];simp;omega,hl4⟩
    have q6:Kl h6 (h.next+1) st':=by
      obtain ⟨v,g,sb⟩:=D5.rd
      exact ⟨v,(l6.get _ (by omega)).trans g,sb.bk bk6⟩
    exact q6.upd u7 (by omega) g7
end
end Go.Proofs.YtfgdelkdmdmfgaaDoor
