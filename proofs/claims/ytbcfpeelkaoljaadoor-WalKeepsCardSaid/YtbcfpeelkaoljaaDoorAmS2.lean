import Derived.Test.YtbcfpeelkaoljaaDoorAmS1
import Derived.Test.YtbcfpeelkaoljaaDoorAmL7
noncomputable section
namespace Go.Proofs.YtbcfpeelkaoljaaDoor
open Go Go.Am
set_option linter.all false
def Qay (p:AV) (h:H) (v:AV) (k:Nat→Prop):Prop :=
  asI .i64 v fun x=>faK 0 p fun p28=>ldV p28 h fun v29=>op' (QW ty 3 64 false v29 (AV.int .i64 x) h) fun v30=>Zi v30 k
def lenOf (p:AV) (h:H) (v:AV) (k:Nat→Prop):Prop :=
  asI .i64 v fun x=>faP 0 p fun p28=>ldP p28 h fun v29=>op' (QW ty 3 64 false v29 (AV.int .i64 x) h) fun v30=>Zi v30 k
theorem lenOf_up {p:AV} {h:H} {v:AV} {k:Nat→Prop} (q:lenOf p h v k):Qay p h v k:=by
  unfold lenOf at q;unfold Qay
  rw [QI] at q ⊢
  obtain ⟨x,rfl,q⟩:=q
  exact ⟨x,rfl,Go.Am.faK_mono (fun p28 q=>QeT q) (faP_up q)⟩
def Uc (p:AV) (h:H) (v:AV) (n:Nat):Prop:=lenOf p h v fun m=>m=n
theorem DL {p:AV} {h:H} {v:AV} {k:Nat→Prop}:lenOf p h v k ↔ ∃ n,Uc p h v n∧k n:=by
  simp only [Uc,lenOf,QI,faP,Go.Am.asPtr_iff,QX,ldP,QO,Zi,Yl,Q9,QC]
  constructor
  · rintro ⟨x, rfl, i, o, rfl, i', o', q, h1⟩
    rcases h1 with ⟨m,t,cs,g,a,ga,b,gb,h2⟩ | ⟨t,f,g,s,h1,h2,b,gb,h3⟩
    · rcases h2 with ⟨e, h2⟩ | ⟨_, _, l, _, _, _, e, h2⟩
      · exact ⟨0,⟨x,rfl,i,o,rfl,i',o',q,.inl ⟨m,t,cs,g,a,ga,b,gb,.inl ⟨e,rfl⟩⟩⟩,h2⟩
      · exact ⟨l,⟨x,rfl,i,o,rfl,i',o',q,.inl ⟨m,t,cs,g,a,ga,b,gb,.inr ⟨_,_,l,_,_,_,e,rfl⟩⟩⟩,h2⟩
    · rcases h3 with ⟨e, h3⟩ | ⟨_, _, l, _, _, _, e, h3⟩
      · exact ⟨0,⟨x,rfl,i,o,rfl,i',o',q,.inr ⟨t,f,g,s,h1,h2,b,gb,.inl ⟨e,rfl⟩⟩⟩,h3⟩
      · exact ⟨l,⟨x,rfl,i,o,rfl,i',o',q,.inr ⟨t,f,g,s,h1,h2,b,gb,.inr ⟨_,_,l,_,_,_,e,rfl⟩⟩⟩,h3⟩
  · rintro ⟨n, ⟨x, rfl, i, o, rfl, i', o', q, h1⟩, hk⟩
    refine ⟨x,rfl,i,o,rfl,i',o',q,?_⟩
    rcases h1 with ⟨m,t,cs,g,a,ga,b,gb,h2⟩ | ⟨t,f,g,s,h1,h2,b,gb,h3⟩
    · refine .inl ⟨m, t, cs, g, a, ga, b, gb, ?_⟩
      rcases h2 with ⟨e,rfl⟩ | ⟨_,_,l,_,_,_,e,rfl⟩
      · exact .inl ⟨e,hk⟩
      · exact .inr ⟨_,_,l,_,_,_,e,hk⟩
    · refine .inr ⟨t, f, g, s, h1, h2, b, gb, ?_⟩
      rcases h3 with ⟨e,rfl⟩ | ⟨_,_,l,_,_,_,e,rfl⟩
      · exact .inl ⟨e,hk⟩
      · exact .inr ⟨_,_,l,_,_,_,e,hk⟩
def JK (p:AV) (h:H) (l:List (AV × AV)):Int→(Int→Prop)→Prop :=
  List.rec (motive:=fun _=>Int→(Int→Prop)→Prop) (fun n k=>k n) (fun e _ ih n k=>lenOf p h e.2 fun x=>fI (Qc .i64 (Int.sub n (Int.ofNat x))) fun n'=>ih n' k) l
theorem lenIs_fun {p:AV} {h:H} {v:AV} {n m:Nat} (h1:Uc p h v n) (h2:Uc p h v m):n=m:=by
  simp only [Uc,lenOf,QI,faP,Go.Am.asPtr_iff,QX,ldP,QO,Zi,Yl] at h1 h2
  obtain ⟨x,rfl,i,o,rfl,i',o',q,h1⟩:=h1
  obtain ⟨x2,e2,i2,o2,e3,i2',o2',q2,h2⟩:=h2
  cases e2;cases e3;cases q;cases q2
  rw [Q9] at h1 h2
  rcases h1 with ⟨m1,t1,cs1,g1,a1,ga1,b1,gb1,h1⟩ | ⟨t1,f1,gg1,s1,g1,h1⟩ <;> rcases h2 with ⟨m2,t2,cs2,g2,a2,ga2,b2,gb2,h2⟩ | ⟨t2,f2,gg2,s2,g2,h2⟩ <;> (rw [g1] at g2;cases g2)
  · rw [ga1] at ga2; cases ga2
    rw [gb1] at gb2;cases gb2
    rcases h1 with ⟨e,h1⟩ | ⟨_,_,l,_,_,_,e,h1⟩ <;> rcases h2 with ⟨e',h2⟩ | ⟨_,_,l',_,_,_,e',h2⟩ <;> (rw [e] at e';cases e') <;> omega
  · simp only [QC, QO, Yl, QX] at h1 h2
    obtain ⟨_,b1,gb1,h1⟩:=h1
    obtain ⟨_,b2,gb2,h2⟩:=h2
    rw [gb1] at gb2;cases gb2
    rcases h1 with ⟨e,h1⟩ | ⟨_,_,l,_,_,_,e,h1⟩ <;> rcases h2 with ⟨e',h2⟩ | ⟨_,_,l',_,_,_,e',h2⟩ <;> (rw [e] at e';cases e') <;> omega
theorem Gr {p:AV} {h:H}:∀ {l:List (AV × AV)} {n:Int} {k:Int→Prop},JK p h l n k→(∀ e∈l,∃ x,Uc p h e.2 x)∧∀ f:AV × AV→Nat,(∀ e∈l,Uc p h e.2 (f e))→k (KF n (l.map fun e=>Int.ofNat (f e)))
  | [],n,k,q=>⟨(fun e he=>by cases he),fun _ _=>q⟩
  | e :: l, n, k, q => by
    have q:lenOf p h e.2 fun x=>fI (Qc .i64 (Int.sub n (Int.ofNat x))) fun n'=>JK p h l n' k:=q
    rw [DL] at q
    obtain ⟨x,hx,q⟩:=q
    rw [Qx] at q
    obtain ⟨h1,h2⟩:=Gr (l:=l) q
    refine ⟨fun e' he'=>?_,fun f hf=>?_⟩
    · rcases List.mem_cons.1 he' with rfl | he'
      · exact ⟨x,hx⟩
      · exact h1 e' he'
    · have : f e = x := lenIs_fun (hf e List.mem_cons_self) hx
      rw [List.map_cons,this]
      exact h2 f fun e' he'=>hf e' (List.mem_cons_of_mem _ he')
def Km (G:Gam) (k:Int→H→Prop):(AV × AV × AV × Unit→List Dfr→H→Prop)→AV × AV × AV × Unit→List Dfr→H→Prop:=fun r18 v15 d16 h17=>
  VV v15.2.2.1 h17 fun v19 h20=>
  asTup v19 fun l21=>
  op' (Q3 l21 0) fun v22=>
  asB v22 fun b23=>
  br b23 (
  op' (Y6 v15.2.2.1 h20) fun v24=>
  asTup v24 fun l25=>
  op' (Q3 l25 1) fun v26=>
  asI .i64 v26 fun x27=>
  faK 0 v15.1 fun p28=>
  ldV p28 h20 fun v29=>
  op' (QW ty 3 64 false v29 (AV.int .i64 x27) h20) fun v30=>
  Zi v30 fun x31=>
  asI .i64 v15.2.1 fun x32=>
  fI (Qc .i64 (Int.sub x32 (Int.ofNat x31))) fun x33=>
  r18 (v15.1,(AV.int .i64 x33),v15.2.2.1,()) d16 h20) (
  Qr G d16 h20 fun h34=>
  asI .i64 v15.2.1 fun x35=>
  k x35 h34)
theorem D0 (G : Gam) (k : Int → H → Prop) (self : AV × AV × AV × Unit → List Dfr → H → Prop) (p it : AV) (n : Int) (h : H)
    : Km G k self (p,AV.int .i64 n,it,()) [] h=VV it h fun v19 h20=>asTup v19 fun l21=>op' (Q3 l21 0) fun v22=>asB v22 fun b23=>br b23 (
        op' (Y6 it h20) fun v24=>asTup v24 fun l25=>op' (Q3 l25 1) fun v26=>Qay p h20 v26 fun x31=>fI (Qc .i64 (Int.sub n (Int.ofNat x31))) fun x33=>self (p,AV.int .i64 x33,it,()) [] h20) (k n h20):=by
  kernel_rfl
structure Shows (m r:Nat) (es0:List (AV × AV)) (es:List (AV × AV × Nat)) (clock:Nat) (hB h:H):Prop where
  was:hB.get m=.smap es0
  free:hB.get r=.dead
  mp:h.get m=.amap es clock
  shown:YJ es0 es clock
  same:∀ id,id≠m→id≠r→h.get id=hB.get id
theorem Shows.look {m r:Nat} {es0:List (AV × AV)} {es:List (AV × AV × Nat)} {clock:Nat} {hB h:H} (s:Shows m r es0 es clock hB h) {T:Ty} {kt e:Nat} {ok:Bool} {x i v:AV} (q:QW T kt e ok x i hB=some v):QW T kt e ok x i h=some v:=by
  unfold QW at q ⊢
  split at q
  · exact q
  · rename_i id
    by_cases h1:id=m
    · subst h1
      rw [s.was] at q;rw [s.mp]
      exact Ku s.shown q
    · by_cases h2 : id = r
      · subst h2;rw [s.free] at q;cases q
      · rw [s.same id h1 h2];exact q
  · cases q
theorem Shows.row {m r:Nat} {es0:List (AV × AV)} {es:List (AV × AV × Nat)} {clock:Nat} {hB h:H} (s:Shows m r es0 es clock hB h) {p:AV} {k:AV→Prop} (q:ldP p hB k):ldP p h k:=by
  unfold ldP at q ⊢
  rw [Go.Am.asPtr_iff] at q ⊢
  obtain ⟨i,o,rfl,q⟩:=q
  refine ⟨i,o,rfl,?_⟩
  by_cases h1:i=m
  · subst h1;rw [s.was] at q;exact q.elim
  · by_cases h2 : i = r
    · subst h2;rw [s.free] at q;exact q.elim
    · rw [s.same i h1 h2];exact q
theorem Shows.len {m r:Nat} {es0:List (AV × AV)} {es:List (AV × AV × Nat)} {clock:Nat} {hB h:H} (s:Shows m r es0 es clock hB h) {p v:AV} {n:Nat} (q:Uc p hB v n):Uc p h v n:=by
  unfold Uc lenOf at q ⊢
  rw [QI] at q ⊢
  obtain ⟨x,rfl,q⟩:=q
  refine ⟨x,rfl,?_⟩
  simp only [faP,Go.Am.asPtr_iff] at q ⊢
  obtain ⟨i,o,rfl,q⟩:=q
  refine ⟨i,o,rfl,?_⟩
  rw [QX] at q ⊢
  have:=s.row q
  unfold ldP at this ⊢
  rw [Go.Am.asPtr_iff] at this ⊢
  obtain ⟨i,o,e,this⟩:=this
  refine ⟨i,o,e,?_⟩
  rw [Q9] at this ⊢
  rcases this with ⟨m1,t1,cs1,g1,h1⟩ | ⟨t1,f1,gg1,s1,g1,h1⟩
  · refine .inl ⟨m1, t1, cs1, g1, ?_⟩
    rw [QO] at h1 ⊢
    obtain ⟨a,ga,h1⟩:=h1
    refine ⟨a,ga,?_⟩
    rw [QO] at h1 ⊢
    obtain ⟨b,gb,h1⟩:=h1
    exact ⟨b,s.look gb,h1⟩
  · refine .inr ⟨t1, f1, gg1, s1, g1, ?_⟩
    rw [QC] at h1 ⊢
    refine ⟨h1.1,?_⟩
    have h1:=h1.2
    rw [QX,QO] at h1 ⊢
    obtain ⟨b,gb,h1⟩:=h1
    exact ⟨b,s.look gb,h1⟩
structure Over (m r:Nat) (es0:List (AV × AV)) (hB h:H):Prop where
  mp:h.get m=.smap es0
  it:h.get r=.dead
  same:∀ id,id≠m→id≠r→h.get id=hB.get id
  next:h.next=r+1
  base:h.base=hB.base
theorem loop45 {G:Gam} {k:Int→H→Prop} {m r:Nat} {es0:List (AV × AV)} {es:List (AV × AV × Nat)} {clock:Nat} {hB:H} {p:AV} {f:AV × AV→Nat} (hf:∀ e∈es0,Uc p hB e.2 (f e)) (hbm:hB.base≤m) (hbr:hB.base≤r) (hmr:m < r) :
    ∀ (c j:Nat),c < j→∀ (seen:List Nat) (n:Int) (h:H),Shows m r es0 es clock hB h→h.get r=.miter (some m) clock seen clock→h.base=hB.base→h.next=r+1→(rest seen es).length=c →
    (∀ h2,Over m r es0 hB h2→k (KF n ((rest seen es).map fun e=>Int.ofNat (f (e.1,e.2.1)))) h2)→VM (Km G k) j (p,AV.int .i64 n,.ptr r 0,()) [] h:=by
  intro c
  induction c with
  | zero =>
    intro j hj seen n h s hit hb hn hc hk
    obtain ⟨j,rfl⟩:∃ j',j=j'+1:=⟨j - 1,by omega⟩
    show Km G k (VM (Km G k) j) _ [] h
    rw [D0]
    have hnil:rest seen es=[]:=List.length_eq_zero_iff.1 hc
    have it:Iter m r es0 es clock seen h:=⟨s.mp,hit,s.shown⟩
    refine it.next (fun e he hs=>?_) fun _=>?_
    · have : e ∈ rest seen es := by unfold rest; rw [List.mem_filter]; exact ⟨he, by simpa using hs⟩
      rw [hnil] at this;cases this
    · obtain ⟨h1, p1⟩ := VY (h := h) (i := m) (.smap es0) (by omega) (by omega)
      obtain ⟨_,_,n1,b1,g1⟩:=Z8 p1
      obtain ⟨h2,p2⟩:=VY (h:=h1) (i:=r) .dead (by omega) (by omega)
      obtain ⟨_,_,n2,b2,g2⟩:=Z8 p2
      refine ⟨h1,h2,p1,p2,?_⟩
      rw [Go.Am.asTup_iff]
      refine ⟨_,rfl,?_⟩
      show k n h2
      have:=hk h2 ⟨by rw [g2,if_neg (by omega),g1,if_pos rfl],by rw [g2,if_pos rfl],fun id i1 i2=>by rw [g2,if_neg i2,g1,if_neg i1];exact s.same id i1 i2,by omega,by omega⟩
      rw [hnil] at this;exact this
  | succ c ih =>
    intro j hj seen n h s hit hb hn hc hk
    obtain ⟨j,rfl⟩:∃ j',j=j'+1:=⟨j - 1,by omega⟩
    show Km G k (VM (Km G k) j) _ [] h
    rw [D0]
    have it:Iter m r es0 es clock seen h:=⟨s.mp,hit,s.shown⟩
    refine it.next (fun e he hs=>?_) fun hall=>?_
    · obtain ⟨h1, p1⟩ := VY (h := h) (i := r) (.miter (some m) clock (seen ++ [e.2.2]) clock) (by omega) (by omega)
      obtain ⟨_,_,n1,b1,g1⟩:=Z8 p1
      refine ⟨h1,p1,?_⟩
      have hp:=Dh s.shown.stamps he hs
      have s1:Shows m r es0 es clock hB h1:=⟨s.was,s.free,by rw [g1,if_neg (by omega)];exact s.mp,s.shown,fun id i1 i2=>by rw [g1,if_neg i2];exact s.same id i1 i2⟩
      have he0:(e.1,e.2.1)∈es0:=s.shown.perm.mem_iff.1 (List.mem_map.2 ⟨e,he,rfl⟩)
      rw [Go.Am.asTup_iff]
      refine ⟨_,rfl,?_⟩
      show op' (Y6 (.ptr r 0) h1) _
      rw [QO]
      refine ⟨_,(it.step p1).entry he,?_⟩
      rw [Go.Am.asTup_iff]
      refine ⟨_,rfl,?_⟩
      show Qay p h1 e.2.1 _
      refine lenOf_up ?_
      rw [DL]
      refine ⟨_,s1.len (hf _ he0),?_⟩
      rw [Qx]
      refine ih j (by omega) (seen++[e.2.2]) _ h1 s1 (by rw [g1,if_pos rfl]) (by omega) (by omega) (by have:=hp.length_eq;simp at this;omega) fun h2 o2=>?_
      have:=hk h2 o2
      rw [KC ((hp.map _))] at this
      exact this
    · rw [Qbq hall] at hc;cases hc
def smK (v:AV) (h:H) (k:Nat→List (AV × AV)→Prop):Prop :=
  match v with
  | .map id => match h.get id with
    | .smap es=>k id es
    | _=>False
  | _=>False
theorem smK_imp {v:AV} {h:H} {k:Nat→List (AV × AV)→Prop} (e:smK v h k):∃ id es,v=.map id∧h.get id=.smap es∧k id es:=by
  unfold smK at e
  split at e
  · rename_i id
    split at e
    · rename_i es hg;exact ⟨id,es,rfl,hg,e⟩
    · exact e.elim
  · exact e.elim
def N4 (a0:AV) (h:H) (k:Int→H→Prop):Prop :=
s21 a0 AV.nils h fun x2 h1=>
fB (Bool.not (eqI x2 (Int.ofNat 0))) fun b3=>
br b3 (
k (Int.ofNat 0) h1) (
Qv a0 (
faK 3 a0 fun p4=>
ldI .i64 p4 h1 fun x5=>
Qw (.cells false 52 [(.nilm),(.nilm)]) h1 fun n6 h7=>
s51 a0 h7 fun v9 h8=>
ck (Zz (Zq p4 h8) (AV.int .i64 x5)) (
Go.Am.asAgg v9 fun l11=>
stN 2 (AV.ptr n6 0) l11 h8 fun h10=>
ck (Zz (Zq p4 h10) (AV.int .i64 x5)) (
ldV (AV.ptr n6 1) h10 fun v12=>
smK v12 h10 fun m es=>
ck (Nat.ble h10.base m) (ck (Nat.ble es.length 1000000) (
JK (AV.ptr n6 0) h10 es x5 fun n=>Qw .dead h10 fun _ h'=>k n h'))))))
theorem tail45 {G : Gam} {h10 : H} {n6 m : Nat} {es : List (AV × AV)} {x5 : Int} {k : Int → H → Prop} {N : Nat} (hg : h10.get m = .smap es) (hb : h10.base ≤ m) (hl : es.length ≤ 1000000)
    (q:JK (AV.ptr n6 0) h10 es x5 fun n=>Qw .dead h10 fun _ h'=>k n h') :
    YY (.map m) h10 fun v13 h14=>J0.lp (Km G fun r h1=>∃ h2,Deader N h1 h2∧k r h2) (AV.ptr n6 0,AV.int .i64 x5,v13,()) [] h14:=by
  obtain ⟨h1,h2⟩:=Gr q
  have hml:m < h10.next:=H.lt_of_live (by rw [hg];rfl)
  have hw:h10.Wf:=⟨by omega⟩
  have hwl:=hw.low
  unfold YY
  simp only [hg]
  intro es' clock hs
  obtain ⟨ha,pa⟩:=VY (h:=h10) (i:=m) (.amap es' clock) hml hb
  obtain ⟨_,_,na,ba,ga⟩:=Z8 pa
  obtain ⟨hc,pc⟩:=Qda ha (.miter (some m) clock [] clock)
  have hwa:ha.Wf:=⟨by omega⟩
  obtain ⟨_,nc,bc,_,gc⟩:=H.push_some pc hwa
  simp only [pa,pc]
  rw [J0.lp_ok]
  classical
  have hf:∃ f:AV × AV→Nat,∀ e∈es,Uc (AV.ptr n6 0) h10 e.2 (f e) :=
    ⟨fun e=>if he:∃ x,Uc (AV.ptr n6 0) h10 e.2 x then he.choose else 0,fun e he=>by simp only [dif_pos (h1 e he)];exact (h1 e he).choose_spec⟩
  obtain ⟨f,hf⟩:=hf
  have hr:h10.get ha.next=.dead:=H.get_of_le (by omega)
  refine loop45 (es0:=es) (es:=es') (clock:=clock) (hB:=h10) hf hb (by omega) (by omega) es'.length fuel ?_ [] x5 hc ⟨hg,hr,?_,hs,fun id i1 i2=>?_⟩ ?_ (by omega) (by omega) (by rw [KM]) fun hz o=>?_
  · have:=hs.length;unfold fuel;omega
  · rw [gc,if_neg (by omega),ga,if_pos rfl]
  · rw [gc,if_neg i2,ga,if_neg i1]
  · rw [gc,if_pos rfl]
  · have := h2 f hf
    rw [Zh] at this
    obtain ⟨n,h',p',this⟩:=this
    obtain ⟨_,n',b',_,g'⟩:=H.push_some p' hw
    have hall:∀ id,h'.get id=hz.get id:=fun id=>by
      rw [g']
      by_cases i1:id=m
      · subst i1;rw [if_neg (by omega),o.mp,hg]
      · by_cases i2 : id = ha.next
        · subst i2;rw [if_pos (by omega),o.it]
        · rw [if_neg (by omega),o.same id i1 i2]
    refine ⟨h',⟨by rw [n',o.next];omega,by rw [b',o.base],fun id _=>hall id,fun id _=>.inl (hall id)⟩,?_⟩
    rw [KM]
    have hp:=KC ((hs.perm.map fun e=>Int.ofNat (f e))) x5
    rw [List.map_map] at hp
    show k (KF x5 (es'.map ((fun e=>Int.ofNat (f e)) ∘ fun e=>(e.1,e.2.1)))) h'
    rw [hp];exact this
theorem okNil_mono1 {v:AV} {p p':Prop} (h:Qv v p) (hp:p→p'):Qv v p':=by
  cases v <;> first | exact h.elim | exact hp h | skip
  rename_i fn _ _
  cases fn <;> first | exact h.elim | exact hp h
theorem DM {p:AV} {h:H} {k k':AV→Prop} (q:ldV p h k) (hk:∀ v,k v→k' v):ldV p h k':=Go.Am.ldV_mono hk q
theorem ldI_mono1 {kk:IntKind} {p:AV} {h:H} {k k':Int→Prop} (q:ldI kk p h k) (hk:∀ v,k v→k' v):ldI kk p h k' :=
  DM q fun v q=>by rw [QI] at q ⊢;obtain ⟨n,e,q⟩:=q;exact ⟨n,e,hk _ q⟩
theorem stN_mono1 {n:Nat} {p:AV} {l:List AV} {h:H} {k k':H→Prop} (q:stN n p l h k) (hk:∀ h',k h'→k' h'):stN n p l h k':=by
  unfold stN at q ⊢
  rw [Go.Am.asPtr_iff] at q ⊢
  obtain ⟨i,o,e,q⟩:=q
  refine ⟨i,o,e,?_⟩
  rw [Q9] at q ⊢
  rcases q with ⟨m,t,cs,g,q⟩ | ⟨t,f,g,s,g',q⟩
  · refine .inl ⟨m, t, cs, g, ?_⟩
    rw [QC,QC,QO] at q ⊢
    obtain ⟨q1,q2,a,ga,q⟩:=q
    rw [Zo] at q
    obtain ⟨h',p1,q⟩:=q
    refine ⟨q1,q2,a,ga,?_⟩
    rw [Zo];exact ⟨h',p1,hk _ q⟩
  · exact q.elim
theorem s45'_imp {a0:AV} {h:H} {k:Int→H→Prop} {N:Nat} (q:N4 a0 h k):s45G J0 up21 up51 a0 h fun r h1=>∃ h2,Deader N h1 h2∧k r h2:=by
  unfold s45G
  refine ⟨_,q,fun x2 h1 q=>?_⟩
  rw [Qi] at q ⊢
  rw [ZZ] at q ⊢
  rcases q with ⟨c,q⟩ | ⟨c,q⟩
  · exact .inl ⟨c,h1,.refl _ _,q⟩
  · refine .inr ⟨c, ?_⟩
    refine okNil_mono1 q fun q=>?_
    refine Go.Am.faK_mono (fun p4 q=>?_) q
    refine ldI_mono1 q fun x5 q=>?_
    rw [U8] at q ⊢
    refine ⟨_,q,fun v9 h8 q=>?_⟩
    rw [QC] at q ⊢
    refine ⟨q.1,?_⟩
    have q:=q.2
    rw [Go.Am.asAgg_iff] at q ⊢
    obtain ⟨l,e2,q⟩:=q
    refine ⟨l,e2,stN_mono1 q fun h10 q=>?_⟩
    rw [QC] at q ⊢
    refine ⟨q.1,DM q.2 fun v12 q=>?_⟩
    obtain ⟨m,es,rfl,hg,q⟩:=smK_imp q
    rw [QC,QC,Qh,Qh] at q
    exact tail45 hg q.1 q.2.1 q.2.2
def Qfb:Fun:=w45 N4
theorem QdG:Qp Tryd.prog 45 Qfb :=
  (Qz QF QG (Qu (J:=J0) (Qb up21_ok (Qb up51_ok (Qn Qo)))) Tryd.func45 (fun args w=>by simp)).deader fun xs h k _ e0=>by
    obtain ⟨a0,xs0,rfl,e1⟩:=Qf e0
    obtain ⟨rfl,e2⟩:=Qj e1
    exact (s45_eq J0 up21 up51 a0 h _).mpr (s45'_imp e2)
end Go.Proofs.YtbcfpeelkaoljaaDoor
namespace Go.Proofs.YtbcfpeelkaoljaaDoor
open Go Go.Am
set_option maxRecDepth 100000
set_option linter.all false
def Qeo (J:Qg) (cd:Code→Ks→List AV→List Dfr→H→Prop) (a0:AV) (a1:AV) (a2:AV) (h:H) (k:H→Prop):Prop :=
J.lp (α:=AV × AV × AV × AV × Unit) (fun r4 v1 d2 h3=>
ldV v1.2.1 h3 fun v5=>
Zi v5 fun x6=>
asI .i64 v1.2.2.2.1 fun x7=>
fB (ltI x7 (Int.ofNat x6)) fun b8=>
br b8 (
ldI .i64 v1.2.2.1 h3 fun x9=>
ldV v1.2.1 h3 fun v10=>
slK 1 v10 (some v1.2.2.2.1) none fun v11=>
Zi v11 fun x12=>
op' (QaW (AV.int .i64 x9) (AV.int .i64 (Int.ofNat x12))) fun v13=>
asI .i64 v13 fun x14=>
ldV v1.2.1 h3 fun v15=>
asI .i64 v1.2.2.2.1 fun x16=>
fI (Qc .i64 (Int.add x16 x14)) fun x17=>
asI .i64 v1.2.2.2.1 fun x18=>
fI (Qc .i64 (Int.add x18 x14)) fun x19=>
spX (JT 1 v15 (some v1.2.2.2.1) (some (AV.int .i64 x17)) (AV.int .i64 x19)) fun v20=>
Xc (UQ J [] [] cd) v1.1 [v20] h3 fun v21 h22=>
asB v21 fun b23=>
fB (Bool.not b23) fun b24=>
br b24 (
Qr (UQ J [] [] cd) d2 h22 fun h25=>
k  h25) (
ldI .i64 v1.2.2.1 h22 fun x26=>
asI .i64 v1.2.2.2.1 fun x27=>
fI (Qc .i64 (Int.add x27 x26)) fun x28=>
r4 (v1.1,v1.2.1,v1.2.2.1,(AV.int .i64 x28),()) d2 h22)) (
Qr (UQ J [] [] cd) d2 h3 fun h29=>
k  h29)) (a0,a1,a2,(AV.int .i64 (Int.ofNat 0)),()) [] h
def s64:AV→AV→AV→H→(H→Prop)→Prop:=Qeo J0  Wd
def w64 (c:AV→AV→AV→H→(H→Prop)→Prop):Fun:=fun xs h k=>arg xs fun a0 xs=>arg xs fun a1 xs=>arg xs fun a2 xs=>QV xs <| c a0 a1 a2 h fun  h=>k (.tuple []) h
theorem Qen (J:Qg) (cd:Code→Ks→List AV→List Dfr→H→Prop) (a0:AV) (a1:AV) (a2:AV) (h:H) (k:AV→H→Prop):Zk ty (UQ J [] [] cd) Tryd.f64 [a0,a1,a2] h k=Qeo J  cd a0 a1 a2 h (fun  h=>k (.tuple []) h):=by kernel_rfl
def g64:Fun:=w64 s64
theorem g64_ok:Qp Tryd.prog 64 g64:=(Qz QF QG (GN (J:=J0) (Qn Qo) (Qn NI) JD) Tryd.func64 (fun args w=>by simp)).imp fun xs h k e0=>by
  obtain ⟨a0,xs0,rfl,e1⟩:=Qf e0
  obtain ⟨a1,xs1,rfl,e2⟩:=Qf e1
  obtain ⟨a2,xs2,rfl,e3⟩:=Qf e2
  obtain ⟨rfl,e4⟩:=Qj e3
  exact (Qen J0  Wd a0 a1 a2 h k).mpr e4
def s46G (J:Qg) (c64:AV→AV→AV→H→(H→Prop)→Prop) (a0:AV) (a1:Int) (h:H) (k:AV→H→Prop):Prop :=
ck (Zv a0) (
Qw (.cells false 64 [a0]) h fun n1 h2=>
Qw (.cells false 3 [(AV.int .i64 a1)]) h2 fun n3 h4=>
J.jd (α:=AV × AV × Unit) (fun v5 d6 h7=>
Qr (gam J [(64,w64 c64)]) d6 h7 fun h9=>
k (AV.func (.func 64) [] [v5.1,v5.2.1]) h9) fun j8=>
ldI .i64 (AV.ptr n3 0) h4 fun x10=>
fB (ltI x10 (Int.ofNat 1)) fun b11=>
br b11 (
False) (
j8 ((AV.ptr n1 0),(AV.ptr n3 0),()) [] h4))
def s46:AV→Int→H→(AV→H→Prop)→Prop:=s46G J0 s64
def w46 (c:AV→Int→H→(AV→H→Prop)→Prop):Fun:=fun xs h k=>arg xs fun a0 xs=>arg xs fun a1 xs=>QV xs <| asI .i64 a1 fun a1=>c a0 a1 h fun r0 h=>k r0 h
theorem s46_eq (J:Qg) (c64:AV→AV→AV→H→(H→Prop)→Prop) (a0:AV) (a1:Int) (h:H) (k:AV→H→Prop):Zk ty (gam J [(64,w64 c64)]) Tryd.f46 [a0,(.int .i64 a1)] h k=s46G J c64 a0 a1 h (fun r0 h=>k r0 h):=by kernel_rfl
def g46:Fun:=w46 s46
theorem Qfa:Qp Tryd.prog 46 g46:=(Qz QF QG (Qu (J:=J0) (Qb g64_ok (Qn Qo))) Tryd.func46 (fun args w=>by simp)).imp fun xs h k e0=>by
  obtain ⟨a0,xs0,rfl,e1⟩:=Qf e0
  obtain ⟨a1,xs1,rfl,e2⟩:=Qf e1
  obtain ⟨rfl,e3⟩:=Qj e2
  obtain ⟨a1,rfl,e4⟩:=QI.1 e3
  exact (s46_eq J0 s64 a0 a1 h k).mpr e4
def G7:AV→AV→AV→H→(H→Prop)→Prop:=Qeo J0  (QcB ty (UQ J0 [(44,g44),(45,Qfb),(46,g46),(47,g47),(48,g48)] [] Wd))
theorem i64_28_ok:ItOk Tryd.prog 64 (w64 G7):=(it_ok QF QG (GN (J:=J0) (Qn Qo) (Qn NI) (code_ok QF QG (GN (J:=J0) (Qb QaE (Qb QdG (Qb Qfa (Qb Qcw (Qb QaD (Qn Qo)))))) (Qn NI) JD))) Tryd.func64 (fun args w=>by simp)).imp fun xs h k e0=>by
  obtain ⟨a0,xs0,rfl,e1⟩:=Qf e0
  obtain ⟨a1,xs1,rfl,e2⟩:=Qf e1
  obtain ⟨a2,xs2,rfl,e3⟩:=Qf e2
  obtain ⟨rfl,e4⟩:=Qj e3
  exact (Qen J0  (QcB ty (UQ J0 [(44,g44),(45,Qfb),(46,g46),(47,g47),(48,g48)] [] Wd)) a0 a1 a2 h k).mpr e4
def s28G (J:Qg) (c44:AV→Str→H→(Int→Int→H→Prop)→Prop) (c45:AV→H→(Int→H→Prop)→Prop) (c46:AV→Int→H→(AV→H→Prop)→Prop) (c47:AV→AV→H→(Int→H→Prop)→Prop) (c48:AV→H→(AV→H→Prop)→Prop) (i64:AV→AV→AV→H→(H→Prop)→Prop) (a0:AV) (a1:Str) (a2:AV) (h:H) (k:Int→H→Prop):Prop :=
ck (Zv a0) (
Qw (.cells false 24 [a0]) h fun n1 h2=>
Qw (.cells false 25 [(.int .i64 0)]) h2 fun n3 h4=>
ldV (AV.ptr n1 0) h4 fun v5=>
c44 v5 a1 h4 fun x7 x8 h6=>
Qw (.cells false 3 [(.int .i64 0)]) h6 fun n9 h10=>
stV (AV.ptr n9 0) (AV.int .i64 x7) h10 fun h11=>
fB (Bool.not (eqI x8 (Int.ofNat 0))) fun b12=>
br b12 (
stV (AV.ptr n3 0) (AV.int .i64 x8) h11 fun h13=>
ldI .i64 (AV.ptr n3 0) h13 fun x14=>
k x14 h13) (
Zi a2 fun x15=>
ldV (AV.ptr n1 0) h11 fun v16=>
c45 v16 h11 fun x18 h17=>
fB (ltI x18 (Int.ofNat x15)) fun b19=>
br b19 (
stV (AV.ptr n3 0) (AV.int .i64 (Int.ofNat 8)) h17 fun h20=>
ldI .i64 (AV.ptr n3 0) h20 fun x21=>
k x21 h20) (
J.jd (α:=AV × Unit) (fun v22 d23 h24=>
stV v22.1 (AV.int .i64 (Int.ofNat 0)) h24 fun h26=>
Qr (UQ J [(44,w44 c44),(45,w45 c45),(46,w46 c46),(47,w47 c47),(48,w48 c48)] [(64,w64 i64)] Wd) d23 h26 fun h27=>
ldI .i64 v22.1 h27 fun x28=>
k x28 h27) fun j25=>
c46 a2 (Int.ofNat 64) h17 fun v30 h29=>
rfK (UQ J [(44,w44 c44),(45,w45 c45),(46,w46 c46),(47,w47 c47),(48,w48 c48)] [(64,w64 i64)] Wd) v30 [27] (Qbp Tryd.f28 0) [a0,(AV.str a1),a2,(AV.ptr n1 0),AV.junk,AV.junk,(AV.ptr n3 0),(AV.ptr n9 0),(AV.int .i64 x8),AV.junk,AV.junk,(AV.tuple [(AV.int .i64 x7),(AV.int .i64 x8)]),v5,(AV.str a1),(AV.tuple [(AV.int .i64 x7),(AV.int .i64 x8)]),(AV.int .i64 x7),(AV.int .i64 x8),(AV.int .i64 x8),(AV.bool b12),AV.junk,a2,(AV.int .i64 (Int.ofNat x15)),v16,(AV.int .i64 x18),(AV.bool b19),a2,v30,AV.junk,AV.junk,AV.junk,AV.junk,AV.junk,AV.junk,AV.junk,AV.junk,AV.junk,AV.junk] h29 fun n31 n32 h33=>
Qfr n31 n32 (fun d34 h35=>
j25 ((AV.ptr n3 0),()) d34 h35) (fun d34 h35=>
Qr (UQ J [(44,w44 c44),(45,w45 c45),(46,w46 c46),(47,w47 c47),(48,w48 c48)] [(64,w64 i64)] Wd) d34 h35 fun h37=>
ldI .i64 (AV.ptr n3 0) h37 fun x38=>
k x38 h37) (fun i36 d34 h35=>
exB (Nat.beq i36 0) (fun d34 h35=>
j25 ((AV.ptr n3 0),()) d34 h35) (fun d34 h35=>
False) d34 h35) [] h33)))
def s28:AV→Str→AV→H→(Int→H→Prop)→Prop:=s28G J0 s44 N4 s46 s47 s48 G7
def w28 (c:AV→Str→AV→H→(Int→H→Prop)→Prop):Fun:=fun xs h k=>arg xs fun a0 xs=>arg xs fun a1 xs=>arg xs fun a2 xs=>QV xs <| asS a1 fun a1=>c a0 a1 a2 h fun r0 h=>k (.int .i64 r0) h
theorem s28_eq (J:Qg) (c44:AV→Str→H→(Int→Int→H→Prop)→Prop) (c45:AV→H→(Int→H→Prop)→Prop) (c46:AV→Int→H→(AV→H→Prop)→Prop) (c47:AV→AV→H→(Int→H→Prop)→Prop) (c48:AV→H→(AV→H→Prop)→Prop) (i64:AV→AV→AV→H→(H→Prop)→Prop) (a0:AV) (a1:Str) (a2:AV) (h:H) (k:AV→H→Prop):Zk ty (UQ J [(44,w44 c44),(45,w45 c45),(46,w46 c46),(47,w47 c47),(48,w48 c48)] [(64,w64 i64)] Wd) Tryd.f28 [a0,(.str a1),a2] h k=s28G J c44 c45 c46 c47 c48 i64 a0 a1 a2 h (fun r0 h=>k (.int .i64 r0) h):=by kernel_rfl
def g28:Fun:=w28 s28
theorem Qfk:Qp Tryd.prog 28 g28:=(Qz QF QG (GN (J:=J0) (Qb QaE (Qb QdG (Qb Qfa (Qb Qcw (Qb QaD (Qn Qo)))))) (Qb i64_28_ok (Qn NI)) JD) Tryd.func28 (fun args w=>by simp)).imp fun xs h k e0=>by
  obtain ⟨a0,xs0,rfl,e1⟩:=Qf e0
  obtain ⟨a1,xs1,rfl,e2⟩:=Qf e1
  obtain ⟨a2,xs2,rfl,e3⟩:=Qf e2
  obtain ⟨rfl,e4⟩:=Qj e3
  obtain ⟨a1,rfl,e5⟩:=ZE.1 e4
  exact (s28_eq J0 s44 N4 s46 s47 s48 G7 a0 a1 a2 h k).mpr e5
def s29G (J:Qg) (c44:AV→Str→H→(Int→Int→H→Prop)→Prop) (c49:AV→AV→H→(Int→H→Prop)→Prop) (c50:AV→AV→H→(Bool→H→Prop)→Prop) (a0:AV) (a1:Str) (h:H) (k:Int→H→Prop):Prop :=
c44 a0 a1 h fun x2 x3 h1=>
Qw (.cells false 3 [(.int .i64 0)]) h1 fun n4 h5=>
stV (AV.ptr n4 0) (AV.int .i64 x2) h5 fun h6=>
fB (Bool.not (eqI x3 (Int.ofNat 0))) fun b7=>
br b7 (
k x3 h6) (
c49 a0 (AV.func (.func 50) [] [(AV.ptr n4 0)]) h6 fun x9 h8=>
k x9 h8)
def s29:AV→Str→H→(Int→H→Prop)→Prop:=s29G J0 s44 s49 s50
def w29 (c:AV→Str→H→(Int→H→Prop)→Prop):Fun:=fun xs h k=>arg xs fun a0 xs=>arg xs fun a1 xs=>QV xs <| asS a1 fun a1=>c a0 a1 h fun r0 h=>k (.int .i64 r0) h
theorem s29_eq (J:Qg) (c44:AV→Str→H→(Int→Int→H→Prop)→Prop) (c49:AV→AV→H→(Int→H→Prop)→Prop) (c50:AV→AV→H→(Bool→H→Prop)→Prop) (a0:AV) (a1:Str) (h:H) (k:AV→H→Prop):Zk ty (gam J [(44,w44 c44),(49,w49 c49),(50,w50 c50)]) Tryd.f29 [a0,(.str a1)] h k=s29G J c44 c49 c50 a0 a1 h (fun r0 h=>k (.int .i64 r0) h):=by kernel_rfl
def g29:Fun:=w29 s29
theorem Qfj:Qp Tryd.prog 29 g29:=(Qz QF QG (Qu (J:=J0) (Qb QaE (Qb Qe9 (Qb Qe8 (Qn Qo))))) Tryd.func29 (fun args w=>by simp)).imp fun xs h k e0=>by
  obtain ⟨a0,xs0,rfl,e1⟩:=Qf e0
  obtain ⟨a1,xs1,rfl,e2⟩:=Qf e1
  obtain ⟨rfl,e3⟩:=Qj e2
  obtain ⟨a1,rfl,e4⟩:=ZE.1 e3
  exact (s29_eq J0 s44 s49 s50 a0 a1 h k).mpr e4
def s9G (J:Qg) (c22:AV→H→(Int→H→Prop)→Prop) (c23:AV→H→(Int→H→Prop)→Prop) (c24:AV→H→(AV→Int→H→Prop)→Prop) (c25:AV→AV→H→(AV→Int→H→Prop)→Prop) (c26:Int→H→(Str→Int→H→Prop)→Prop) (c27:AV→Int→H→(Int→H→Prop)→Prop) (c28:AV→Str→AV→H→(Int→H→Prop)→Prop) (c29:AV→Str→H→(Int→H→Prop)→Prop) (a0:AV) (a1:AV) (h:H) (k:Int→Int→H→Prop):Prop :=
c22 a0 h fun x2 h1=>
fB (Bool.not (eqI x2 (Int.ofNat 0))) fun b3=>
br b3 (
k (Int.ofNat 0) x2 h1) (
c23 a1 h1 fun x5 h4=>
fB (Bool.not (eqI x5 (Int.ofNat 0))) fun b6=>
br b6 (
k (Int.ofNat 0) x5 h4) (
Qv a0 (
faK 1 a0 fun p7=>
ldI .i64 p7 h4 fun x8=>
fB (eqI x8 (Int.ofNat 1073741824)) fun b9=>
br b9 (
k (Int.ofNat 0) (Int.ofNat 3) h4) (
Qv a0 (
faK 1 a0 fun p10=>
ldI .i64 p10 h4 fun x11=>
fI (Qc .i64 (Int.add x11 (Int.ofNat 1))) fun x12=>
ck (Zv a1) (c24 (AV.agg [(AV.int .i64 x12),a1]) h4 fun v14 x15 h13=>
c25 AV.nils v14 h13 fun v17 x18 h16=>
Qv a0 (
faK 2 a0 fun p19=>
ldI .i64 p19 h16 fun x20=>
c26 x20 h16 fun s22 x23 h21=>
Qv a0 (
faK 0 a0 fun p24=>
ldV p24 h21 fun v25=>
c28 v25 s22 v17 h21 fun x27 h26=>
c27 a0 x27 h26 fun x29 h28=>
fB (Bool.not (eqI x29 (Int.ofNat 0))) fun b30=>
br b30 (
k (Int.ofNat 0) x29 h28) (
Qv a0 (
faK 0 a0 fun p31=>
ldV p31 h28 fun v32=>
c29 v32 s22 h28 fun x34 h33=>
c27 a0 x34 h33 fun x36 h35=>
fB (Bool.not (eqI x36 (Int.ofNat 0))) fun b37=>
br b37 (
k (Int.ofNat 0) x36 h35) (
Qv a0 (
faK 1 a0 fun p38=>
ldI .i64 p38 h35 fun x39=>
fI (Qc .i64 (Int.add x39 (Int.ofNat 1))) fun x40=>
Qv a0 (
faK 1 a0 fun p41=>
stV p41 (AV.int .i64 x40) h35 fun h42=>
Qv a0 (
faK 1 a0 fun p43=>
ldI .i64 p43 h42 fun x44=>
k x44 (Int.ofNat 0) h42))))))))))))))
def s9:AV→AV→H→(Int→Int→H→Prop)→Prop:=s9G J0 s22 s23 s24 s25 s26 s27 s28 s29
def w9 (c:AV→AV→H→(Int→Int→H→Prop)→Prop):Fun:=fun xs h k=>arg xs fun a0 xs=>arg xs fun a1 xs=>QV xs <| c a0 a1 h fun r0 r1 h=>k (.tuple [(.int .i64 r0),(.int .i64 r1)]) h
theorem s9_eq (J:Qg) (c22:AV→H→(Int→H→Prop)→Prop) (c23:AV→H→(Int→H→Prop)→Prop) (c24:AV→H→(AV→Int→H→Prop)→Prop) (c25:AV→AV→H→(AV→Int→H→Prop)→Prop) (c26:Int→H→(Str→Int→H→Prop)→Prop) (c27:AV→Int→H→(Int→H→Prop)→Prop) (c28:AV→Str→AV→H→(Int→H→Prop)→Prop) (c29:AV→Str→H→(Int→H→Prop)→Prop) (a0:AV) (a1:AV) (h:H) (k:AV→H→Prop):Zk ty (gam J [(22,w22 c22),(23,w23 c23),(24,w24 c24),(25,w25 c25),(26,w26 c26),(27,w27 c27),(28,w28 c28),(29,w29 c29)]) Tryd.f9 [a0,a1] h k=s9G J c22 c23 c24 c25 c26 c27 c28 c29 a0 a1 h (fun r0 r1 h=>k (.tuple [(.int .i64 r0),(.int .i64 r1)]) h):=by kernel_rfl
def g9:Fun:=w9 s9
theorem g9_ok:Qp Tryd.prog 9 g9:=(Qz QF QG (Qu (J:=J0) (Qb Qcy (Qb QaH (Qb Qfm (Qb Qfl (Qb QaG (Qb QaF (Qb Qfk (Qb Qfj (Qn Qo)))))))))) Tryd.func9 (fun args w=>by simp)).imp fun xs h k e0=>by
  obtain ⟨a0,xs0,rfl,e1⟩:=Qf e0
  obtain ⟨a1,xs1,rfl,e2⟩:=Qf e1
  obtain ⟨rfl,e3⟩:=Qj e2
  exact (s9_eq J0 s22 s23 s24 s25 s26 s27 s28 s29 a0 a1 h k).mpr e3
def g14:Fun:=Y9 ty (gam J0 []) Tryd.f14
theorem g14_ok:Qp Tryd.prog 14 g14:=Yd QF QG (Qu (J:=J0) (Qn Qo)) Tryd.func14 (fun args w=>by simp)
def g15:Fun:=Y9 ty (gam J0 []) Tryd.f15
theorem g15_ok:Qp Tryd.prog 15 g15:=Yd QF QG (Qu (J:=J0) (Qn Qo)) Tryd.func15 (fun args w=>by simp)
def g16:Fun:=Y9 ty (gam J0 []) Tryd.f16
theorem g16_ok:Qp Tryd.prog 16 g16:=Yd QF QG (Qu (J:=J0) (Qn Qo)) Tryd.func16 (fun args w=>by simp)
def g4:Fun:=Y9 ty (gam J0 [(5,g5),(6,g6),(9,g9),(14,g14),(15,g15),(16,g16)]) Tryd.f4
theorem g4_ok:Qp Tryd.prog 4 g4:=Yd QF QG (Qu (J:=J0) (Qb g5_ok (Qb g6_ok (Qb g9_ok (Qb g14_ok (Qb g15_ok (Qb g16_ok (Qn Qo)))))))) Tryd.func4 (fun args w=>by simp)
def s7G (J:Qg) (a0:AV) (h:H) (k:Bool→H→Prop):Prop :=
J.lp (α:=AV × AV × Unit) (fun r4 v1 d2 h3=>
Zi v1.1 fun x5=>
asI .i64 v1.2.1 fun x6=>
fB (ltI x6 (Int.ofNat x5)) fun b7=>
br b7 (
ixK 3 v1.1 v1.2.1 fun p8=>
faK 0 p8 fun p9=>
ldS p9 h3 fun s10=>
fB (ltI (Int.ofNat 600) (Int.ofNat s10.len)) fun b11=>
J.jn (fun v12 h13=>
J.jn (fun v15 h16=>
J.jn (fun v18 h19=>
J.jn (fun v22 h23=>
J.jn (fun v26 h27=>
J.jn (fun v30 h31=>
J.jn (fun v34 h35=>
J.jn (fun v39 h40=>
J.jn (fun v42 h43=>
J.jn (fun v45 h46=>
J.jn (fun v48 h49=>
J.jn (fun v52 h53=>
J.jn (fun v56 h57=>
J.jn (fun v60 h61=>
J.jn (fun v64 h65=>
J.jn (fun v69 h70=>
QY (AV.bool b11) (AV.bool true) v69 fun b73=>
J.jn (fun v74 h75=>
J.jn (fun v77 h78=>
J.jn (fun v80 h81=>
J.jn (fun v84 h85=>
J.jn (fun v88 h89=>
J.jn (fun v92 h93=>
J.jn (fun v96 h97=>
QY (AV.bool b73) (AV.bool true) v96 fun b101=>
br b101 (
Qr (gam J []) d2 h97 fun h102=>
k false h102) (
asI .i64 v1.2.1 fun x103=>
fI (Qc .i64 (Int.add x103 (Int.ofNat 1))) fun x104=>
r4 (v1.1,(AV.int .i64 x104),()) d2 h97)) fun j98=>
br b73 (
j98 Qa h93) (
asI .i64 v92 fun x99=>
fB (ltI (Int.ofNat 4105) x99) fun b100=>
j98 (AV.bool b100) h93)) fun j94=>
br b73 (
j94 Qa h89) (
asS v88 fun s95=>
j94 (AV.int .i64 (Int.ofNat s95.len)) h89)) fun j90=>
br b73 (
j90 Qa h85) (
ldS v84 h85 fun s91=>
j90 (AV.str s91) h85)) fun j86=>
br b73 (
j86 Qa h81) (
faK 1 v80 fun p87=>
j86 p87 h81)) fun j82=>
br b73 (
j82 Qa h78) (
ixK 3 v74 v77 fun p83=>
j82 p83 h78)) fun j79=>
br b73 (
j79 Qa h75) (
j79 v1.2.1 h75)) fun j76=>
br b73 (
j76 Qa h70) (
j76 v1.1 h70)) fun j71=>
br b11 (
j71 Qa h65) (
QY v39 v64 (AV.bool false) fun b72=>
j71 (AV.bool b72) h65)) fun j66=>
ZW v39 (fun b105=>
br b105 (
asI .i64 v60 fun x67=>
fB (Bool.not (ltI (Int.ofNat 4096) x67)) fun b68=>
j66 (AV.bool b68) h61) (
j66 Qa h61)) (
j66 Qa h61)) fun j62=>
ZW v39 (fun b106=>
br b106 (
asS v56 fun s63=>
j62 (AV.int .i64 (Int.ofNat s63.len)) h57) (
j62 Qa h57)) (
j62 Qa h57)) fun j58=>
ZW v39 (fun b107=>
br b107 (
ldS v52 h53 fun s59=>
j58 (AV.str s59) h53) (
j58 Qa h53)) (
j58 Qa h53)) fun j54=>
ZW v39 (fun b108=>
br b108 (
faK 1 v48 fun p55=>
j54 p55 h49) (
j54 Qa h49)) (
j54 Qa h49)) fun j50=>
ZW v39 (fun b109=>
br b109 (
ixK 3 v42 v45 fun p51=>
j50 p51 h46) (
j50 Qa h46)) (
j50 Qa h46)) fun j47=>
ZW v39 (fun b110=>
br b110 (
j47 v1.2.1 h43) (
j47 Qa h43)) (
j47 Qa h43)) fun j44=>
ZW v39 (fun b111=>
br b111 (
j44 v1.1 h40) (
j44 Qa h40)) (
j44 Qa h40)) fun j41=>
br b11 (
j41 Qa h35) (
j41 v34 h35)) fun j36=>
br b11 (
j36 Qa h31) (
asI .i64 v30 fun x37=>
fB (ltI (Int.ofNat 600) x37) fun b38=>
j36 (AV.bool b38) h31)) fun j32=>
br b11 (
j32 Qa h27) (
asS v26 fun s33=>
j32 (AV.int .i64 (Int.ofNat s33.len)) h27)) fun j28=>
br b11 (
j28 Qa h23) (
ldS v22 h23 fun s29=>
j28 (AV.str s29) h23)) fun j24=>
br b11 (
j24 Qa h19) (
faK 1 v18 fun p25=>
j24 p25 h19)) fun j20=>
br b11 (
j20 Qa h16) (
ixK 3 v12 v15 fun p21=>
j20 p21 h16)) fun j17=>
br b11 (
j17 Qa h13) (
j17 v1.2.1 h13)) fun j14=>
br b11 (
j14 Qa h3) (
j14 v1.1 h3)) (
Qr (gam J []) d2 h3 fun h112=>
k true h112)) (a0,(AV.int .i64 (Int.ofNat 0)),()) [] h
def s7:AV→H→(Bool→H→Prop)→Prop:=s7G J0
def w7 (c:AV→H→(Bool→H→Prop)→Prop):Fun:=fun xs h k=>arg xs fun a0 xs=>QV xs <| c a0 h fun r0 h=>k (.bool r0) h
theorem s7_eq (J:Qg) (a0:AV) (h:H) (k:AV→H→Prop):Zk ty (gam J []) Tryd.f7 [a0] h k=s7G J  a0 h (fun r0 h=>k (.bool r0) h):=by kernel_rfl
def g7:Fun:=w7 s7
theorem g7_ok:Qp Tryd.prog 7 g7:=(Qz QF QG (Qu (J:=J0) (Qn Qo)) Tryd.func7 (fun args w=>by simp)).imp fun xs h k e0=>by
  obtain ⟨a0,xs0,rfl,e1⟩:=Qf e0
  obtain ⟨rfl,e2⟩:=Qj e1
  exact (s7_eq J0  a0 h k).mpr e2
def s8G (J:Qg) (c21:AV→AV→H→(Int→H→Prop)→Prop) (a0:AV) (a1:Int) (h:H) (k:Int→H→Prop):Prop :=
c21 a0 AV.nils h fun x2 h1=>
fB (Bool.not (eqI x2 (Int.ofNat 0))) fun b3=>
br b3 (
k x2 h1) (
fB (ltI a1 (Int.ofNat 0)) fun b4=>
br b4 (
k (Int.ofNat 2) h1) (
Qv a0 (
faK 6 a0 fun p5=>
stV p5 (AV.bool true) h1 fun h6=>
Qv a0 (
faK 7 a0 fun p7=>
stV p7 (AV.int .i64 a1) h6 fun h8=>
k (Int.ofNat 0) h8))))
def s8:AV→Int→H→(Int→H→Prop)→Prop:=s8G J0 s21
def w8 (c:AV→Int→H→(Int→H→Prop)→Prop):Fun:=fun xs h k=>arg xs fun a0 xs=>arg xs fun a1 xs=>QV xs <| asI .i64 a1 fun a1=>c a0 a1 h fun r0 h=>k (.int .i64 r0) h
theorem s8_eq (J:Qg) (c21:AV→AV→H→(Int→H→Prop)→Prop) (a0:AV) (a1:Int) (h:H) (k:AV→H→Prop):Zk ty (gam J [(21,w21 c21)]) Tryd.f8 [a0,(.int .i64 a1)] h k=s8G J c21 a0 a1 h (fun r0 h=>k (.int .i64 r0) h):=by kernel_rfl
def g8:Fun:=w8 s8
theorem g8_ok:Qp Tryd.prog 8 g8:=(Qz QF QG (Qu (J:=J0) (Qb NG (Qn Qo))) Tryd.func8 (fun args w=>by simp)).imp fun xs h k e0=>by
  obtain ⟨a0,xs0,rfl,e1⟩:=Qf e0
  obtain ⟨a1,xs1,rfl,e2⟩:=Qf e1
  obtain ⟨rfl,e3⟩:=Qj e2
  obtain ⟨a1,rfl,e4⟩:=QI.1 e3
  exact (s8_eq J0 s21 a0 a1 h k).mpr e4
def Qcm (J:Qg) (c20:AV→H→(Int→H→Prop)→Prop) (c22:AV→H→(Int→H→Prop)→Prop) (a0:AV) (h:H) (k:Int→H→Prop):Prop :=
c22 a0 h fun x2 h1=>
fB (Bool.not (eqI x2 (Int.ofNat 0))) fun b3=>
br b3 (
k x2 h1) (
c20 a0 h1 fun x5 h4=>
k x5 h4)
def s10:AV→H→(Int→H→Prop)→Prop:=Qcm J0 s20 s22
def w10 (c:AV→H→(Int→H→Prop)→Prop):Fun:=fun xs h k=>arg xs fun a0 xs=>QV xs <| c a0 h fun r0 h=>k (.int .i64 r0) h
theorem s10_eq (J:Qg) (c20:AV→H→(Int→H→Prop)→Prop) (c22:AV→H→(Int→H→Prop)→Prop) (a0:AV) (h:H) (k:AV→H→Prop):Zk ty (gam J [(20,w20 c20),(22,w22 c22)]) Tryd.f10 [a0] h k=Qcm J c20 c22 a0 h (fun r0 h=>k (.int .i64 r0) h):=by kernel_rfl
def g10:Fun:=w10 s10
def s11G (J:Qg) (c30:AV→AV→H→(H→Prop)→Prop) (a0:AV) (a1:Int) (a2:Int) (h:H) (k:Int→H→Prop):Prop :=
nilB 0 a0 fun b1=>
J.jn (fun v2 h3=>
J.jn (fun v5 h6=>
J.jn (fun v8 h9=>
J.jn (fun v12 h13=>
J.jn (fun v16 h17=>
QY (AV.bool b1) (AV.bool true) v16 fun b21=>
br b21 (
k (Int.ofNat 1) h17) (
fB (ltI a1 (Int.ofNat 0)) fun b22=>
J.jn (fun v23 h24=>
J.jn (fun v26 h27=>
QY (AV.bool b22) (AV.bool true) v26 fun b31=>
br b31 (
k (Int.ofNat 2) h27) (
J.jd (α:=AV × Unit) (fun v32 d33 h34=>
Qv v32.1 (
faK 2 v32.1 fun p36=>
stV p36 AV.nils h34 fun h37=>
Qv v32.1 (
faK 6 v32.1 fun p38=>
stV p38 (AV.bool false) h37 fun h39=>
Qv v32.1 (
faK 5 v32.1 fun p40=>
stV p40 (AV.bool false) h39 fun h41=>
Qw (.smap []) h41 fun n42 h43=>
Qv v32.1 (
faK 0 v32.1 fun p44=>
faK 1 p44 fun p45=>
ldV p45 h43 fun v46=>
YY v46 h43 fun v47 h48=>
J.lp (α:=AV × AV × AV × Unit) (fun r52 v49 d50 h51=>
VV v49.2.2.1 h51 fun v53 h54=>
asTup v53 fun l55=>
op' (Q3 l55 0) fun v56=>
asB v56 fun b57=>
br b57 (
op' (Y6 v49.2.2.1 h54) fun v58=>
asTup v58 fun l59=>
op' (Q3 l59 1) fun v60=>
asI .i64 v60 fun x61=>
Qv v49.1 (
faK 0 v49.1 fun p62=>
faK 0 p62 fun p63=>
ldV p63 h54 fun v64=>
op' (QW ty 3 64 false v64 (AV.int .i64 x61) h54) fun v65=>
op' (Yi ty 3 v49.2.1 (AV.int .i64 x61) v65 h54) fun k66=>
Z9 k66.1 k66.2 h54 fun h67=>
r52 (v49.1,v49.2.1,v49.2.2.1,()) d50 h67)) (
Qv v49.1 (
faK 0 v49.1 fun p68=>
faK 0 p68 fun p69=>
stV p69 v49.2.1 h54 fun h70=>
Qr (gam J [(30,w30 c30)]) d50 h70 fun h71=>
k (Int.ofNat 0) h71))) (v32.1,(AV.map n42),v47,()) d33 h48))))) fun j35=>
Qv a0 (
faK 2 a0 fun p72=>
ldV p72 h27 fun v73=>
Zi v73 fun x74=>
J.lp (α:=AV × AV × AV × AV × AV × AV × Unit) (fun r78 v75 d76 h77=>
asI .i64 v75.2.2.2.2.2.1 fun x79=>
asI .i64 v75.2.2.2.2.1 fun x80=>
fB (ltI x79 x80) fun b81=>
br b81 (
ixK 5 v75.2.2.2.1 v75.2.2.2.2.2.1 fun p82=>
ldN 5 p82 h77 fun l83=>
Qw (.cells false 75 [(.int .i64 0),(.str ⟨0,0⟩),(.str ⟨0,0⟩),(.int .i64 0),(.nils)]) h77 fun n84 h85=>
stN 5 (AV.ptr n84 0) l83 h85 fun h86=>
J.jd (α:=AV × AV × AV × AV × AV × AV × AV × AV × Unit) (fun v87 d88 h89=>
asI .i64 v87.2.2.2.1 fun x91=>
asI .i64 v87.2.1 fun x92=>
fB (Bool.not (ltI x91 x92)) fun b93=>
br b93 (
j35 (v87.1,()) d88 h89) (
Qv v87.1 (
faK 0 v87.1 fun p94=>
ldN 2 p94 h89 fun l95=>
ldN 5 v87.2.2.2.2.1 h89 fun l96=>
c30 (AV.agg l95) (AV.agg l96) h89 fun  h97=>
asI .i64 v87.2.2.2.2.2.2.2.1 fun x98=>
fI (Qc .i64 (Int.add x98 (Int.ofNat 1))) fun x99=>
r78 (v87.1,v87.2.1,v87.2.2.1,v87.2.2.2.2.2.1,v87.2.2.2.2.2.2.1,(AV.int .i64 x99),()) d88 h97))) fun j90=>
asI .i64 v75.2.2.2.2.2.1 fun x100=>
asI .i64 v75.2.1 fun x101=>
fB (eqI x100 x101) fun b102=>
J.jn (fun v103 h104=>
J.jn (fun v106 h107=>
J.jn (fun v110 h111=>
QY (AV.bool b102) v110 (AV.bool false) fun b115=>
br b115 (
ldV (AV.ptr n84 4) h111 fun v116=>
ldV (AV.ptr n84 4) h111 fun v117=>
Zi v117 fun x118=>
fI (Qc .i64 (Int.sub (Int.ofNat x118) (Int.ofNat 1))) fun x119=>
op' (QaW v75.2.2.1 (AV.int .i64 x119)) fun v120=>
asI .i64 v120 fun x121=>
slK 1 v116 none (some (AV.int .i64 x121)) fun v122=>
stV (AV.ptr n84 4) v122 h111 fun h123=>
Qv v75.1 (
faK 0 v75.1 fun p124=>
ldN 2 p124 h123 fun l125=>
ldN 5 (AV.ptr n84 0) h123 fun l126=>
c30 (AV.agg l125) (AV.agg l126) h123 fun  h127=>
j90 (v75.1,v75.2.1,v75.2.2.1,v75.2.2.2.2.2.1,(AV.ptr n84 0),v75.2.2.2.1,v75.2.2.2.2.1,v75.2.2.2.2.2.1,()) d76 h127)) (
j90 (v75.1,v75.2.1,v75.2.2.1,v75.2.2.2.2.2.1,(AV.ptr n84 0),v75.2.2.2.1,v75.2.2.2.2.1,v75.2.2.2.2.2.1,()) d76 h111)) fun j112=>
br b102 (
asI .i64 v106 fun x113=>
fB (eqI x113 (Int.ofNat 0)) fun b114=>
j112 (AV.bool b114) h107) (
j112 Qa h107)) fun j108=>
br b102 (
ldI .i64 v103 h104 fun x109=>
j108 (AV.int .i64 x109) h104) (
j108 Qa h104)) fun j105=>
br b102 (
j105 (AV.ptr n84 0) h86) (
j105 Qa h86)) (
j35 (v75.1,()) d76 h77)) (a0,(AV.int .i64 a1),(AV.int .i64 a2),v73,(AV.int .i64 (Int.ofNat x74)),(AV.int .i64 (Int.ofNat 0)),()) [] h27))) fun j28=>
br b22 (
j28 Qa h24) (
asI .i64 v23 fun x29=>
fB (ltI x29 (Int.ofNat 0)) fun b30=>
j28 (AV.bool b30) h24)) fun j25=>
br b22 (
j25 Qa h17) (
j25 (AV.int .i64 a2) h17))) fun j18=>
br b1 (
j18 Qa h13) (
asB v12 fun b19=>
fB (Bool.not b19) fun b20=>
j18 (AV.bool b20) h13)) fun j14=>
br b1 (
j14 Qa h9) (
ldB v8 h9 fun b15=>
j14 (AV.bool b15) h9)) fun j10=>
br b1 (
j10 Qa h6) (
faK 9 v5 fun p11=>
j10 p11 h6)) fun j7=>
br b1 (
j7 Qa h3) (
Qv v2 (
j7 v2 h3))) fun j4=>
br b1 (
j4 Qa h) (
j4 a0 h)
def s11R (J:Qg) (c30:AV→AV→H→(H→Prop)→Prop) (k:Int→H→Prop) (v32:AV × Unit) (d33:List Dfr) (h34:H):Prop :=
Qv v32.1 (
faK 2 v32.1 fun p36=>
stV p36 AV.nils h34 fun h37=>
Qv v32.1 (
faK 6 v32.1 fun p38=>
stV p38 (AV.bool false) h37 fun h39=>
Qv v32.1 (
faK 5 v32.1 fun p40=>
stV p40 (AV.bool false) h39 fun h41=>
Qw (.smap []) h41 fun n42 h43=>
Qv v32.1 (
faK 0 v32.1 fun p44=>
faK 1 p44 fun p45=>
ldV p45 h43 fun v46=>
YY v46 h43 fun v47 h48=>
J.lp (α:=AV × AV × AV × Unit) (fun r52 v49 d50 h51=>
VV v49.2.2.1 h51 fun v53 h54=>
asTup v53 fun l55=>
op' (Q3 l55 0) fun v56=>
asB v56 fun b57=>
br b57 (
op' (Y6 v49.2.2.1 h54) fun v58=>
asTup v58 fun l59=>
op' (Q3 l59 1) fun v60=>
asI .i64 v60 fun x61=>
Qv v49.1 (
faK 0 v49.1 fun p62=>
faK 0 p62 fun p63=>
ldV p63 h54 fun v64=>
op' (QW ty 3 64 false v64 (AV.int .i64 x61) h54) fun v65=>
op' (Yi ty 3 v49.2.1 (AV.int .i64 x61) v65 h54) fun k66=>
Z9 k66.1 k66.2 h54 fun h67=>
r52 (v49.1,v49.2.1,v49.2.2.1,()) d50 h67)) (
Qv v49.1 (
faK 0 v49.1 fun p68=>
faK 0 p68 fun p69=>
stV p69 v49.2.1 h54 fun h70=>
Qr (gam J [(30,w30 c30)]) d50 h70 fun h71=>
k (Int.ofNat 0) h71))) (v32.1,(AV.map n42),v47,()) d33 h48))))
def Qd6 (J:Qg) (c30:AV→AV→H→(H→Prop)→Prop) (R:AV × Unit→List Dfr→H→Prop) (a0:AV) (a1:Int) (a2:Int) (h:H) (k:Int→H→Prop):Prop :=
nilB 0 a0 fun b1=>
J.jn (fun v2 h3=>
J.jn (fun v5 h6=>
J.jn (fun v8 h9=>
J.jn (fun v12 h13=>
J.jn (fun v16 h17=>
QY (AV.bool b1) (AV.bool true) v16 fun b21=>
br b21 (
k (Int.ofNat 1) h17) (
fB (ltI a1 (Int.ofNat 0)) fun b22=>
J.jn (fun v23 h24=>
J.jn (fun v26 h27=>
QY (AV.bool b22) (AV.bool true) v26 fun b31=>
br b31 (
k (Int.ofNat 2) h27) (
J.jd (α:=AV × Unit) (fun v32 d33 h34=>
R v32 d33 h34) fun j35=>
Qv a0 (
faK 2 a0 fun p72=>
ldV p72 h27 fun v73=>
Zi v73 fun x74=>
J.lp (α:=AV × AV × AV × AV × AV × AV × Unit) (fun r78 v75 d76 h77=>
asI .i64 v75.2.2.2.2.2.1 fun x79=>
asI .i64 v75.2.2.2.2.1 fun x80=>
fB (ltI x79 x80) fun b81=>
br b81 (
ixK 5 v75.2.2.2.1 v75.2.2.2.2.2.1 fun p82=>
ldN 5 p82 h77 fun l83=>
Qw (.cells false 75 [(.int .i64 0),(.str ⟨0,0⟩),(.str ⟨0,0⟩),(.int .i64 0),(.nils)]) h77 fun n84 h85=>
stN 5 (AV.ptr n84 0) l83 h85 fun h86=>
J.jd (α:=AV × AV × AV × AV × AV × AV × AV × AV × Unit) (fun v87 d88 h89=>
asI .i64 v87.2.2.2.1 fun x91=>
asI .i64 v87.2.1 fun x92=>
fB (Bool.not (ltI x91 x92)) fun b93=>
br b93 (
j35 (v87.1,()) d88 h89) (
Qv v87.1 (
faK 0 v87.1 fun p94=>
ldN 2 p94 h89 fun l95=>
ldN 5 v87.2.2.2.2.1 h89 fun l96=>
c30 (AV.agg l95) (AV.agg l96) h89 fun  h97=>
asI .i64 v87.2.2.2.2.2.2.2.1 fun x98=>
fI (Qc .i64 (Int.add x98 (Int.ofNat 1))) fun x99=>
r78 (v87.1,v87.2.1,v87.2.2.1,v87.2.2.2.2.2.1,v87.2.2.2.2.2.2.1,(AV.int .i64 x99),()) d88 h97))) fun j90=>
asI .i64 v75.2.2.2.2.2.1 fun x100=>
asI .i64 v75.2.1 fun x101=>
fB (eqI x100 x101) fun b102=>
J.jn (fun v103 h104=>
J.jn (fun v106 h107=>
J.jn (fun v110 h111=>
QY (AV.bool b102) v110 (AV.bool false) fun b115=>
br b115 (
ldV (AV.ptr n84 4) h111 fun v116=>
ldV (AV.ptr n84 4) h111 fun v117=>
Zi v117 fun x118=>
fI (Qc .i64 (Int.sub (Int.ofNat x118) (Int.ofNat 1))) fun x119=>
op' (QaW v75.2.2.1 (AV.int .i64 x119)) fun v120=>
asI .i64 v120 fun x121=>
slK 1 v116 none (some (AV.int .i64 x121)) fun v122=>
stV (AV.ptr n84 4) v122 h111 fun h123=>
Qv v75.1 (
faK 0 v75.1 fun p124=>
ldN 2 p124 h123 fun l125=>
ldN 5 (AV.ptr n84 0) h123 fun l126=>
c30 (AV.agg l125) (AV.agg l126) h123 fun  h127=>
j90 (v75.1,v75.2.1,v75.2.2.1,v75.2.2.2.2.2.1,(AV.ptr n84 0),v75.2.2.2.1,v75.2.2.2.2.1,v75.2.2.2.2.2.1,()) d76 h127)) (
j90 (v75.1,v75.2.1,v75.2.2.1,v75.2.2.2.2.2.1,(AV.ptr n84 0),v75.2.2.2.1,v75.2.2.2.2.1,v75.2.2.2.2.2.1,()) d76 h111)) fun j112=>
br b102 (
asI .i64 v106 fun x113=>
fB (eqI x113 (Int.ofNat 0)) fun b114=>
j112 (AV.bool b114) h107) (
j112 Qa h107)) fun j108=>
br b102 (
ldI .i64 v103 h104 fun x109=>
j108 (AV.int .i64 x109) h104) (
j108 Qa h104)) fun j105=>
br b102 (
j105 (AV.ptr n84 0) h86) (
j105 Qa h86)) (
j35 (v75.1,()) d76 h77)) (a0,(AV.int .i64 a1),(AV.int .i64 a2),v73,(AV.int .i64 (Int.ofNat x74)),(AV.int .i64 (Int.ofNat 0)),()) [] h27))) fun j28=>
br b22 (
j28 Qa h24) (
asI .i64 v23 fun x29=>
fB (ltI x29 (Int.ofNat 0)) fun b30=>
j28 (AV.bool b30) h24)) fun j25=>
br b22 (
j25 Qa h17) (
j25 (AV.int .i64 a2) h17))) fun j18=>
br b1 (
j18 Qa h13) (
asB v12 fun b19=>
fB (Bool.not b19) fun b20=>
j18 (AV.bool b20) h13)) fun j14=>
br b1 (
j14 Qa h9) (
ldB v8 h9 fun b15=>
j14 (AV.bool b15) h9)) fun j10=>
br b1 (
j10 Qa h6) (
faK 9 v5 fun p11=>
j10 p11 h6)) fun j7=>
br b1 (
j7 Qa h3) (
Qv v2 (
j7 v2 h3))) fun j4=>
br b1 (
j4 Qa h) (
j4 a0 h)
theorem s11_hole (J:Qg) (c30:AV→AV→H→(H→Prop)→Prop) (a0:AV) (a1:Int) (a2:Int) (h:H) (k:Int→H→Prop):s11G J c30 a0 a1 a2 h k=Qd6 J c30 (s11R J c30 k) a0 a1 a2 h k:=by kernel_rfl
def s11:AV→Int→Int→H→(Int→H→Prop)→Prop:=s11G J0 s30
def w11 (c:AV→Int→Int→H→(Int→H→Prop)→Prop):Fun:=fun xs h k=>arg xs fun a0 xs=>arg xs fun a1 xs=>arg xs fun a2 xs=>QV xs <| asI .i64 a1 fun a1=>asI .i64 a2 fun a2=>c a0 a1 a2 h fun r0 h=>k (.int .i64 r0) h
theorem s11_eq (J:Qg) (c30:AV→AV→H→(H→Prop)→Prop) (a0:AV) (a1:Int) (a2:Int) (h:H) (k:AV→H→Prop):Zk ty (gam J [(30,w30 c30)]) Tryd.f11 [a0,(.int .i64 a1),(.int .i64 a2)] h k=s11G J c30 a0 a1 a2 h (fun r0 h=>k (.int .i64 r0) h):=by kernel_rfl
def g11:Fun:=w11 s11
end Go.Proofs.YtbcfpeelkaoljaaDoor
