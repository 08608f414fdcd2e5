import Derived.Test.YtfgdelkdmdmfgaaDoorAmS1
import Derived.Test.YtfgdelkdmdmfgaaDoorAmL7
noncomputable section
namespace Go.Proofs.YtfgdelkdmdmfgaaDoor
open Go Go.Am
set_option linter.all false
def QaA (p:AV) (h:H) (v:AV) (k:Nat→Prop):Prop :=
  asI .i64 v fun x=>faK 0 p fun p28=>ldV p28 h fun v29=>op' (Q5 ty 3 39 false v29 (AV.int .i64 x) h) fun v30=>ZH v30 k
def lenOf (p:AV) (h:H) (v:AV) (k:Nat→Prop):Prop :=
  asI .i64 v fun x=>faP 0 p fun p28=>ldP p28 h fun v29=>op' (Q5 ty 3 39 false v29 (AV.int .i64 x) h) fun v30=>ZH v30 k
theorem lenOf_up {p:AV} {h:H} {v:AV} {k:Nat→Prop} (q:lenOf p h v k):QaA p h v k:=by
  unfold lenOf at q;unfold QaA
  rw [QC] at q ⊢
  obtain ⟨x,rfl,q⟩:=q
  exact ⟨x,rfl,Go.Am.faK_mono (fun p28 q=>ldP_up q) (faP_up q)⟩
def Ub (p:AV) (h:H) (v:AV) (n:Nat):Prop:=lenOf p h v fun m=>m=n
theorem DK {p:AV} {h:H} {v:AV} {k:Nat→Prop}:lenOf p h v k ↔ ∃ n,Ub p h v n∧k n:=by
  simp only [Ub,lenOf,QC,faP,Go.Am.asPtr_iff,Zb,ldP,QX,ZH,YD,Zj,QN]
  constructor
  · rintro ⟨x, rfl, i, o, rfl, i', o', q, h1⟩
    rcases h1 with ⟨m,t,cs,g,a,ga,b,gb,h2⟩ | ⟨t,f,g,s,h1,h2,b,gb,h3⟩
    · rcases h2 with ⟨e, h2⟩ | ⟨_, _, l, _, _, _, e, h2⟩
      · exact ⟨0,⟨x,rfl,i,o,rfl,i',o',q,.inl ⟨m,t,cs,g,a,ga,b,gb,.inl ⟨e,rfl⟩⟩⟩,h2⟩
      · exact ⟨l,⟨x,rfl,i,o,rfl,i',o',q,.inl ⟨m,t,cs,g,a,ga,b,gb,.inr ⟨_,_,l,_,_,_,e,rfl⟩⟩⟩,h2⟩
    · rcases h3 with ⟨e, h3⟩ | ⟨_, _, l, _, _, _, e, h3⟩
      · exact ⟨0,⟨x,rfl,i,o,rfl,i',o',q,.inr ⟨t,f,g,s,h1,h2,b,gb,.inl ⟨e,rfl⟩⟩⟩,h3⟩
      · exact ⟨l,⟨x,rfl,i,o,rfl,i',o',q,.inr ⟨t,f,g,s,h1,h2,b,gb,.inr ⟨_,_,l,_,_,_,e,rfl⟩⟩⟩,h3⟩
  · rintro ⟨n, ⟨x, rfl, i, o, rfl, i', o', q, h1⟩, hk⟩
    refine ⟨x,rfl,i,o,rfl,i',o',q,?_⟩
    rcases h1 with ⟨m,t,cs,g,a,ga,b,gb,h2⟩ | ⟨t,f,g,s,h1,h2,b,gb,h3⟩
    · refine .inl ⟨m, t, cs, g, a, ga, b, gb, ?_⟩
      rcases h2 with ⟨e,rfl⟩ | ⟨_,_,l,_,_,_,e,rfl⟩
      · exact .inl ⟨e,hk⟩
      · exact .inr ⟨_,_,l,_,_,_,e,hk⟩
    · refine .inr ⟨t, f, g, s, h1, h2, b, gb, ?_⟩
      rcases h3 with ⟨e,rfl⟩ | ⟨_,_,l,_,_,_,e,rfl⟩
      · exact .inl ⟨e,hk⟩
      · exact .inr ⟨_,_,l,_,_,_,e,hk⟩
def JA (p:AV) (h:H) (l:List (AV × AV)):Int→(Int→Prop)→Prop :=
  List.rec (motive:=fun _=>Int→(Int→Prop)→Prop) (fun n k=>k n) (fun e _ ih n k=>lenOf p h e.2 fun x=>fI (Qd .i64 (Int.sub n (Int.ofNat x))) fun n'=>ih n' k) l
theorem lenIs_fun {p:AV} {h:H} {v:AV} {n m:Nat} (h1:Ub p h v n) (h2:Ub p h v m):n=m:=by
  simp only [Ub,lenOf,QC,faP,Go.Am.asPtr_iff,Zb,ldP,QX,ZH,YD] at h1 h2
  obtain ⟨x,rfl,i,o,rfl,i',o',q,h1⟩:=h1
  obtain ⟨x2,e2,i2,o2,e3,i2',o2',q2,h2⟩:=h2
  cases e2;cases e3;cases q;cases q2
  rw [Zj] at h1 h2
  rcases h1 with ⟨m1,t1,cs1,g1,a1,ga1,b1,gb1,h1⟩ | ⟨t1,f1,gg1,s1,g1,h1⟩ <;> rcases h2 with ⟨m2,t2,cs2,g2,a2,ga2,b2,gb2,h2⟩ | ⟨t2,f2,gg2,s2,g2,h2⟩ <;> (rw [g1] at g2;cases g2)
  · rw [ga1] at ga2; cases ga2
    rw [gb1] at gb2;cases gb2
    rcases h1 with ⟨e,h1⟩ | ⟨_,_,l,_,_,_,e,h1⟩ <;> rcases h2 with ⟨e',h2⟩ | ⟨_,_,l',_,_,_,e',h2⟩ <;> (rw [e] at e';cases e') <;> omega
  · simp only [QN, QX, YD, Zb] at h1 h2
    obtain ⟨_,b1,gb1,h1⟩:=h1
    obtain ⟨_,b2,gb2,h2⟩:=h2
    rw [gb1] at gb2;cases gb2
    rcases h1 with ⟨e,h1⟩ | ⟨_,_,l,_,_,_,e,h1⟩ <;> rcases h2 with ⟨e',h2⟩ | ⟨_,_,l',_,_,_,e',h2⟩ <;> (rw [e] at e';cases e') <;> omega
theorem Gl {p:AV} {h:H}:∀ {l:List (AV × AV)} {n:Int} {k:Int→Prop},JA p h l n k→(∀ e∈l,∃ x,Ub p h e.2 x)∧∀ f:AV × AV→Nat,(∀ e∈l,Ub p h e.2 (f e))→k (Kq n (l.map fun e=>Int.ofNat (f e)))
  | [],n,k,q=>⟨(fun e he=>by cases he),fun _ _=>q⟩
  | e :: l, n, k, q => by
    have q:lenOf p h e.2 fun x=>fI (Qd .i64 (Int.sub n (Int.ofNat x))) fun n'=>JA p h l n' k:=q
    rw [DK] at q
    obtain ⟨x,hx,q⟩:=q
    rw [Qo] at q
    obtain ⟨h1,h2⟩:=Gl (l:=l) q
    refine ⟨fun e' he'=>?_,fun f hf=>?_⟩
    · rcases List.mem_cons.1 he' with rfl | he'
      · exact ⟨x,hx⟩
      · exact h1 e' he'
    · have : f e = x := lenIs_fun (hf e List.mem_cons_self) hx
      rw [List.map_cons,this]
      exact h2 f fun e' he'=>hf e' (List.mem_cons_of_mem _ he')
def Kc (G:Gam) (k:Int→H→Prop):(AV × AV × AV × Unit→List Dfr→H→Prop)→AV × AV × AV × Unit→List Dfr→H→Prop:=fun r18 v15 d16 h17=>
  JT v15.2.2.1 h17 fun v19 h20=>
  asTup v19 fun l21=>
  op' (Q8 l21 0) fun v22=>
  asB v22 fun b23=>
  br b23 (
  op' (VU v15.2.2.1 h20) fun v24=>
  asTup v24 fun l25=>
  op' (Q8 l25 1) fun v26=>
  asI .i64 v26 fun x27=>
  faK 0 v15.1 fun p28=>
  ldV p28 h20 fun v29=>
  op' (Q5 ty 3 39 false v29 (AV.int .i64 x27) h20) fun v30=>
  ZH v30 fun x31=>
  asI .i64 v15.2.1 fun x32=>
  fI (Qd .i64 (Int.sub x32 (Int.ofNat x31))) fun x33=>
  r18 (v15.1,(AV.int .i64 x33),v15.2.2.1,()) d16 h20) (
  Qu G d16 h20 fun h34=>
  asI .i64 v15.2.1 fun x35=>
  k x35 h34)
theorem DW (G : Gam) (k : Int → H → Prop) (self : AV × AV × AV × Unit → List Dfr → H → Prop) (p it : AV) (n : Int) (h : H)
    : Kc G k self (p,AV.int .i64 n,it,()) [] h=JT it h fun v19 h20=>asTup v19 fun l21=>op' (Q8 l21 0) fun v22=>asB v22 fun b23=>br b23 (
        op' (VU it h20) fun v24=>asTup v24 fun l25=>op' (Q8 l25 1) fun v26=>QaA p h20 v26 fun x31=>fI (Qd .i64 (Int.sub n (Int.ofNat x31))) fun x33=>self (p,AV.int .i64 x33,it,()) [] h20) (k n h20):=by
  kernel_rfl
structure Shows (m r:Nat) (es0:List (AV × AV)) (es:List (AV × AV × Nat)) (clock:Nat) (hB h:H):Prop where
  was:hB.get m=.smap es0
  free:hB.get r=.dead
  mp:h.get m=.amap es clock
  shown:YO es0 es clock
  same:∀ id,id≠m→id≠r→h.get id=hB.get id
theorem Shows.look {m r:Nat} {es0:List (AV × AV)} {es:List (AV × AV × Nat)} {clock:Nat} {hB h:H} (s:Shows m r es0 es clock hB h) {T:Ty} {kt e:Nat} {ok:Bool} {x i v:AV} (q:Q5 T kt e ok x i hB=some v):Q5 T kt e ok x i h=some v:=by
  unfold Q5 at q ⊢
  split at q
  · exact q
  · rename_i id
    by_cases h1:id=m
    · subst h1
      rw [s.was] at q;rw [s.mp]
      exact NY s.shown q
    · by_cases h2 : id = r
      · subst h2;rw [s.free] at q;cases q
      · rw [s.same id h1 h2];exact q
  · cases q
theorem Shows.row {m r:Nat} {es0:List (AV × AV)} {es:List (AV × AV × Nat)} {clock:Nat} {hB h:H} (s:Shows m r es0 es clock hB h) {p:AV} {k:AV→Prop} (q:ldP p hB k):ldP p h k:=by
  unfold ldP at q ⊢
  rw [Go.Am.asPtr_iff] at q ⊢
  obtain ⟨i,o,rfl,q⟩:=q
  refine ⟨i,o,rfl,?_⟩
  by_cases h1:i=m
  · subst h1;rw [s.was] at q;exact q.elim
  · by_cases h2 : i = r
    · subst h2;rw [s.free] at q;exact q.elim
    · rw [s.same i h1 h2];exact q
theorem Shows.len {m r:Nat} {es0:List (AV × AV)} {es:List (AV × AV × Nat)} {clock:Nat} {hB h:H} (s:Shows m r es0 es clock hB h) {p v:AV} {n:Nat} (q:Ub p hB v n):Ub p h v n:=by
  unfold Ub lenOf at q ⊢
  rw [QC] at q ⊢
  obtain ⟨x,rfl,q⟩:=q
  refine ⟨x,rfl,?_⟩
  simp only [faP,Go.Am.asPtr_iff] at q ⊢
  obtain ⟨i,o,rfl,q⟩:=q
  refine ⟨i,o,rfl,?_⟩
  rw [Zb] at q ⊢
  have:=s.row q
  unfold ldP at this ⊢
  rw [Go.Am.asPtr_iff] at this ⊢
  obtain ⟨i,o,e,this⟩:=this
  refine ⟨i,o,e,?_⟩
  rw [Zj] at this ⊢
  rcases this with ⟨m1,t1,cs1,g1,h1⟩ | ⟨t1,f1,gg1,s1,g1,h1⟩
  · refine .inl ⟨m1, t1, cs1, g1, ?_⟩
    rw [QX] at h1 ⊢
    obtain ⟨a,ga,h1⟩:=h1
    refine ⟨a,ga,?_⟩
    rw [QX] at h1 ⊢
    obtain ⟨b,gb,h1⟩:=h1
    exact ⟨b,s.look gb,h1⟩
  · refine .inr ⟨t1, f1, gg1, s1, g1, ?_⟩
    rw [QN] at h1 ⊢
    refine ⟨h1.1,?_⟩
    have h1:=h1.2
    rw [Zb,QX] at h1 ⊢
    obtain ⟨b,gb,h1⟩:=h1
    exact ⟨b,s.look gb,h1⟩
structure Over (m r:Nat) (es0:List (AV × AV)) (hB h:H):Prop where
  mp:h.get m=.smap es0
  it:h.get r=.dead
  same:∀ id,id≠m→id≠r→h.get id=hB.get id
  next:h.next=r+1
  base:h.base=hB.base
theorem loop43 {G:Gam} {k:Int→H→Prop} {m r:Nat} {es0:List (AV × AV)} {es:List (AV × AV × Nat)} {clock:Nat} {hB:H} {p:AV} {f:AV × AV→Nat} (hf:∀ e∈es0,Ub p hB e.2 (f e)) (hbm:hB.base≤m) (hbr:hB.base≤r) (hmr:m < r) :
    ∀ (c j:Nat),c < j→∀ (seen:List Nat) (n:Int) (h:H),Shows m r es0 es clock hB h→h.get r=.miter (some m) clock seen clock→h.base=hB.base→h.next=r+1→(rest seen es).length=c →
    (∀ h2,Over m r es0 hB h2→k (Kq n ((rest seen es).map fun e=>Int.ofNat (f (e.1,e.2.1)))) h2)→KH (Kc G k) j (p,AV.int .i64 n,.ptr r 0,()) [] h:=by
  intro c
  induction c with
  | zero =>
    intro j hj seen n h s hit hb hn hc hk
    obtain ⟨j,rfl⟩:∃ j',j=j'+1:=⟨j - 1,by omega⟩
    show Kc G k (KH (Kc G k) j) _ [] h
    rw [DW]
    have hnil:rest seen es=[]:=List.length_eq_zero_iff.1 hc
    have it:Iter m r es0 es clock seen h:=⟨s.mp,hit,s.shown⟩
    refine it.next (fun e he hs=>?_) fun _=>?_
    · have : e ∈ rest seen es := by unfold rest; rw [List.mem_filter]; exact ⟨he, by simpa using hs⟩
      rw [hnil] at this;cases this
    · obtain ⟨h1, p1⟩ := Qaq (h := h) (i := m) (.smap es0) (by omega) (by omega)
      obtain ⟨_,_,n1,b1,g1⟩:=Ue p1
      obtain ⟨h2,p2⟩:=Qaq (h:=h1) (i:=r) .dead (by omega) (by omega)
      obtain ⟨_,_,n2,b2,g2⟩:=Ue p2
      refine ⟨h1,h2,p1,p2,?_⟩
      rw [Go.Am.asTup_iff]
      refine ⟨_,rfl,?_⟩
      show k n h2
      have:=hk h2 ⟨by rw [g2,if_neg (by omega),g1,if_pos rfl],by rw [g2,if_pos rfl],fun id i1 i2=>by rw [g2,if_neg i2,g1,if_neg i1];exact s.same id i1 i2,by omega,by omega⟩
      rw [hnil] at this;exact this
  | succ c ih =>
    intro j hj seen n h s hit hb hn hc hk
    obtain ⟨j,rfl⟩:∃ j',j=j'+1:=⟨j - 1,by omega⟩
    show Kc G k (KH (Kc G k) j) _ [] h
    rw [DW]
    have it:Iter m r es0 es clock seen h:=⟨s.mp,hit,s.shown⟩
    refine it.next (fun e he hs=>?_) fun hall=>?_
    · obtain ⟨h1, p1⟩ := Qaq (h := h) (i := r) (.miter (some m) clock (seen ++ [e.2.2]) clock) (by omega) (by omega)
      obtain ⟨_,_,n1,b1,g1⟩:=Ue p1
      refine ⟨h1,p1,?_⟩
      have hp:=rest_step s.shown.stamps he hs
      have s1:Shows m r es0 es clock hB h1:=⟨s.was,s.free,by rw [g1,if_neg (by omega)];exact s.mp,s.shown,fun id i1 i2=>by rw [g1,if_neg i2];exact s.same id i1 i2⟩
      have he0:(e.1,e.2.1)∈es0:=s.shown.perm.mem_iff.1 (List.mem_map.2 ⟨e,he,rfl⟩)
      rw [Go.Am.asTup_iff]
      refine ⟨_,rfl,?_⟩
      show op' (VU (.ptr r 0) h1) _
      rw [QX]
      refine ⟨_,(it.step p1).entry he,?_⟩
      rw [Go.Am.asTup_iff]
      refine ⟨_,rfl,?_⟩
      show QaA p h1 e.2.1 _
      refine lenOf_up ?_
      rw [DK]
      refine ⟨_,s1.len (hf _ he0),?_⟩
      rw [Qo]
      refine ih j (by omega) (seen++[e.2.2]) _ h1 s1 (by rw [g1,if_pos rfl]) (by omega) (by omega) (by have:=hp.length_eq;simp at this;omega) fun h2 o2=>?_
      have:=hk h2 o2
      rw [Kp ((hp.map _))] at this
      exact this
    · rw [rest_nil hall] at hc;cases hc
def smK (v:AV) (h:H) (k:Nat→List (AV × AV)→Prop):Prop :=
  match v with
  | .map id => match h.get id with
    | .smap es=>k id es
    | _=>False
  | _=>False
theorem smK_imp {v:AV} {h:H} {k:Nat→List (AV × AV)→Prop} (e:smK v h k):∃ id es,v=.map id∧h.get id=.smap es∧k id es:=by
  unfold smK at e
  split at e
  · rename_i id
    split at e
    · rename_i es hg;exact ⟨id,es,rfl,hg,e⟩
    · exact e.elim
  · exact e.elim
def N5 (a0:AV) (h:H) (k:Int→H→Prop):Prop :=
s48 a0 AV.nils h fun x2 h1=>
fB (Bool.not (eqI x2 (Int.ofNat 0))) fun b3=>
br b3 (
k (Int.ofNat 0) h1) (
QQ a0 (
faK 3 a0 fun p4=>
ldI .i64 p4 h1 fun x5=>
Qz (.cells false 53 [(.nilm),(.nilm)]) h1 fun n6 h7=>
s31 a0 h7 fun v9 h8=>
ck (Zz (Zn p4 h8) (AV.int .i64 x5)) (
Go.Am.asAgg v9 fun l11=>
stN 2 (AV.ptr n6 0) l11 h8 fun h10=>
ck (Zz (Zn p4 h10) (AV.int .i64 x5)) (
ldV (AV.ptr n6 1) h10 fun v12=>
smK v12 h10 fun m es=>
ck (Nat.ble h10.base m) (ck (Nat.ble es.length 1000000) (
JA (AV.ptr n6 0) h10 es x5 fun n=>Qz .dead h10 fun _ h'=>k n h'))))))
theorem tail43 {G : Gam} {h10 : H} {n6 m : Nat} {es : List (AV × AV)} {x5 : Int} {k : Int → H → Prop} {N : Nat} (hg : h10.get m = .smap es) (hb : h10.base ≤ m) (hl : es.length ≤ 1000000)
    (q:JA (AV.ptr n6 0) h10 es x5 fun n=>Qz .dead h10 fun _ h'=>k n h') :
    VN (.map m) h10 fun v13 h14=>J0.lp (Kc G fun r h1=>∃ h2,Deader N h1 h2∧k r h2) (AV.ptr n6 0,AV.int .i64 x5,v13,()) [] h14:=by
  obtain ⟨h1,h2⟩:=Gl q
  have hml:m < h10.next:=H.lt_of_live (by rw [hg];rfl)
  have hw:h10.Wf:=⟨by omega⟩
  have hwl:=hw.low
  unfold VN
  simp only [hg]
  intro es' clock hs
  obtain ⟨ha,pa⟩:=Qaq (h:=h10) (i:=m) (.amap es' clock) hml hb
  obtain ⟨_,_,na,ba,ga⟩:=Ue pa
  obtain ⟨hc,pc⟩:=push_ok ha (.miter (some m) clock [] clock)
  have hwa:ha.Wf:=⟨by omega⟩
  obtain ⟨_,nc,bc,_,gc⟩:=H.push_some pc hwa
  simp only [pa,pc]
  rw [J0.lp_ok]
  classical
  have hf:∃ f:AV × AV→Nat,∀ e∈es,Ub (AV.ptr n6 0) h10 e.2 (f e) :=
    ⟨fun e=>if he:∃ x,Ub (AV.ptr n6 0) h10 e.2 x then he.choose else 0,fun e he=>by simp only [dif_pos (h1 e he)];exact (h1 e he).choose_spec⟩
  obtain ⟨f,hf⟩:=hf
  have hr:h10.get ha.next=.dead:=H.get_of_le (by omega)
  refine loop43 (es0:=es) (es:=es') (clock:=clock) (hB:=h10) hf hb (by omega) (by omega) es'.length fuel ?_ [] x5 hc ⟨hg,hr,?_,hs,fun id i1 i2=>?_⟩ ?_ (by omega) (by omega) (by rw [Qbh]) fun hz o=>?_
  · have:=hs.length;unfold fuel;omega
  · rw [gc,if_neg (by omega),ga,if_pos rfl]
  · rw [gc,if_neg i2,ga,if_neg i1]
  · rw [gc,if_pos rfl]
  · have := h2 f hf
    rw [Zo] at this
    obtain ⟨n,h',p',this⟩:=this
    obtain ⟨_,n',b',_,g'⟩:=H.push_some p' hw
    have hall:∀ id,h'.get id=hz.get id:=fun id=>by
      rw [g']
      by_cases i1:id=m
      · subst i1;rw [if_neg (by omega),o.mp,hg]
      · by_cases i2 : id = ha.next
        · subst i2;rw [if_pos (by omega),o.it]
        · rw [if_neg (by omega),o.same id i1 i2]
    refine ⟨h',⟨by rw [n',o.next];omega,by rw [b',o.base],fun id _=>hall id,fun id _=>.inl (hall id)⟩,?_⟩
    rw [Qbh]
    have hp:=Kp ((hs.perm.map fun e=>Int.ofNat (f e))) x5
    rw [List.map_map] at hp
    show k (Kq x5 (es'.map ((fun e=>Int.ofNat (f e)) ∘ fun e=>(e.1,e.2.1)))) h'
    rw [hp];exact this
theorem okNil_mono1 {v:AV} {p p':Prop} (h:QQ v p) (hp:p→p'):QQ v p':=by
  cases v <;> first | exact h.elim | exact hp h | skip
  rename_i fn _ _
  cases fn <;> first | exact h.elim | exact hp h
theorem DL {p:AV} {h:H} {k k':AV→Prop} (q:ldV p h k) (hk:∀ v,k v→k' v):ldV p h k':=Go.Am.ldV_mono hk q
theorem ldI_mono1 {kk:IntKind} {p:AV} {h:H} {k k':Int→Prop} (q:ldI kk p h k) (hk:∀ v,k v→k' v):ldI kk p h k' :=
  DL q fun v q=>by rw [QC] at q ⊢;obtain ⟨n,e,q⟩:=q;exact ⟨n,e,hk _ q⟩
theorem stN_mono1 {n:Nat} {p:AV} {l:List AV} {h:H} {k k':H→Prop} (q:stN n p l h k) (hk:∀ h',k h'→k' h'):stN n p l h k':=by
  unfold stN at q ⊢
  rw [Go.Am.asPtr_iff] at q ⊢
  obtain ⟨i,o,e,q⟩:=q
  refine ⟨i,o,e,?_⟩
  rw [Zj] at q ⊢
  rcases q with ⟨m,t,cs,g,q⟩ | ⟨t,f,g,s,g',q⟩
  · refine .inl ⟨m, t, cs, g, ?_⟩
    rw [QN,QN,QX] at q ⊢
    obtain ⟨q1,q2,a,ga,q⟩:=q
    rw [ZK] at q
    obtain ⟨h',p1,q⟩:=q
    refine ⟨q1,q2,a,ga,?_⟩
    rw [ZK];exact ⟨h',p1,hk _ q⟩
  · exact q.elim
theorem s43'_imp {a0:AV} {h:H} {k:Int→H→Prop} {N:Nat} (q:N5 a0 h k):s43G J0 up31 up48 a0 h fun r h1=>∃ h2,Deader N h1 h2∧k r h2:=by
  unfold s43G
  refine ⟨_,q,fun x2 h1 q=>?_⟩
  rw [Qg] at q ⊢
  rw [Yf] at q ⊢
  rcases q with ⟨c,q⟩ | ⟨c,q⟩
  · exact .inl ⟨c,h1,.refl _ _,q⟩
  · refine .inr ⟨c, ?_⟩
    refine okNil_mono1 q fun q=>?_
    refine Go.Am.faK_mono (fun p4 q=>?_) q
    refine ldI_mono1 q fun x5 q=>?_
    rw [Ni] at q ⊢
    refine ⟨_,q,fun v9 h8 q=>?_⟩
    rw [QN] at q ⊢
    refine ⟨q.1,?_⟩
    have q:=q.2
    rw [Go.Am.asAgg_iff] at q ⊢
    obtain ⟨l,e2,q⟩:=q
    refine ⟨l,e2,stN_mono1 q fun h10 q=>?_⟩
    rw [QN] at q ⊢
    refine ⟨q.1,DL q.2 fun v12 q=>?_⟩
    obtain ⟨m,es,rfl,hg,q⟩:=smK_imp q
    rw [QN,QN,Qk,Qk] at q
    exact tail43 hg q.1 q.2.1 q.2.2
def QeT:Fun:=w43 N5
theorem Qdu:Qt Tryd.prog 43 QeT :=
  (QA QD QE (Qv (J:=J0) (Qc up31_ok (Qc up48_ok (Ql Qn)))) Tryd.func43 (fun args w=>by simp)).deader fun xs h k _ e0=>by
    obtain ⟨a0,xs0,rfl,e1⟩:=Qf e0
    obtain ⟨rfl,e2⟩:=Qi e1
    exact (s43_eq J0 up31 up48 a0 h _).mpr (s43'_imp e2)
end Go.Proofs.YtfgdelkdmdmfgaaDoor
namespace Go.Proofs.YtfgdelkdmdmfgaaDoor
open Go Go.Am
set_option maxRecDepth 100000
set_option linter.all false
def Qea (J:Qh) (cd:Code→Ks→List AV→List Dfr→H→Prop) (a0:AV) (a1:AV) (a2:AV) (h:H) (k:H→Prop):Prop :=
J.lp (α:=AV × AV × AV × AV × Unit) (fun r4 v1 d2 h3=>
ldV v1.2.1 h3 fun v5=>
ZH v5 fun x6=>
asI .i64 v1.2.2.2.1 fun x7=>
fB (ltI x7 (Int.ofNat x6)) fun b8=>
br b8 (
ldI .i64 v1.2.2.1 h3 fun x9=>
ldV v1.2.1 h3 fun v10=>
slK 1 v10 (some v1.2.2.2.1) none fun v11=>
ZH v11 fun x12=>
op' (QdZ (AV.int .i64 x9) (AV.int .i64 (Int.ofNat x12))) fun v13=>
asI .i64 v13 fun x14=>
ldV v1.2.1 h3 fun v15=>
asI .i64 v1.2.2.2.1 fun x16=>
fI (Qd .i64 (Int.add x16 x14)) fun x17=>
asI .i64 v1.2.2.2.1 fun x18=>
fI (Qd .i64 (Int.add x18 x14)) fun x19=>
spX (JH 1 v15 (some v1.2.2.2.1) (some (AV.int .i64 x17)) (AV.int .i64 x19)) fun v20=>
K8 (UR J [] [] cd) v1.1 [v20] h3 fun v21 h22=>
asB v21 fun b23=>
fB (Bool.not b23) fun b24=>
br b24 (
Qu (UR J [] [] cd) d2 h22 fun h25=>
k  h25) (
ldI .i64 v1.2.2.1 h22 fun x26=>
asI .i64 v1.2.2.2.1 fun x27=>
fI (Qd .i64 (Int.add x27 x26)) fun x28=>
r4 (v1.1,v1.2.1,v1.2.2.1,(AV.int .i64 x28),()) d2 h22)) (
Qu (UR J [] [] cd) d2 h3 fun h29=>
k  h29)) (a0,a1,a2,(AV.int .i64 (Int.ofNat 0)),()) [] h
def s64:AV→AV→AV→H→(H→Prop)→Prop:=Qea J0  Wh
def w64 (c:AV→AV→AV→H→(H→Prop)→Prop):Fun:=fun xs h k=>arg xs fun a0 xs=>arg xs fun a1 xs=>arg xs fun a2 xs=>QY xs <| c a0 a1 a2 h fun  h=>k (.tuple []) h
theorem Qd9 (J:Qh) (cd:Code→Ks→List AV→List Dfr→H→Prop) (a0:AV) (a1:AV) (a2:AV) (h:H) (k:AV→H→Prop):Zl ty (UR J [] [] cd) Tryd.f64 [a0,a1,a2] h k=Qea J  cd a0 a1 a2 h (fun  h=>k (.tuple []) h):=by kernel_rfl
def g64:Fun:=w64 s64
theorem g64_ok:Qt Tryd.prog 64 g64:=(QA QD QE (GM (J:=J0) (Ql Qn) (Ql NL) Jv) Tryd.func64 (fun args w=>by simp)).imp fun xs h k e0=>by
  obtain ⟨a0,xs0,rfl,e1⟩:=Qf e0
  obtain ⟨a1,xs1,rfl,e2⟩:=Qf e1
  obtain ⟨a2,xs2,rfl,e3⟩:=Qf e2
  obtain ⟨rfl,e4⟩:=Qi e3
  exact (Qd9 J0  Wh a0 a1 a2 h k).mpr e4
def s44G (J:Qh) (c64:AV→AV→AV→H→(H→Prop)→Prop) (a0:AV) (a1:Int) (h:H) (k:AV→H→Prop):Prop :=
ck (ZB a0) (
Qz (.cells false 39 [a0]) h fun n1 h2=>
Qz (.cells false 3 [(AV.int .i64 a1)]) h2 fun n3 h4=>
J.jd (α:=AV × AV × Unit) (fun v5 d6 h7=>
Qu (gam J [(64,w64 c64)]) d6 h7 fun h9=>
k (AV.func (.func 64) [] [v5.1,v5.2.1]) h9) fun j8=>
ldI .i64 (AV.ptr n3 0) h4 fun x10=>
fB (ltI x10 (Int.ofNat 1)) fun b11=>
br b11 (
False) (
j8 ((AV.ptr n1 0),(AV.ptr n3 0),()) [] h4))
def s44:AV→Int→H→(AV→H→Prop)→Prop:=s44G J0 s64
def w44 (c:AV→Int→H→(AV→H→Prop)→Prop):Fun:=fun xs h k=>arg xs fun a0 xs=>arg xs fun a1 xs=>QY xs <| asI .i64 a1 fun a1=>c a0 a1 h fun r0 h=>k r0 h
theorem s44_eq (J:Qh) (c64:AV→AV→AV→H→(H→Prop)→Prop) (a0:AV) (a1:Int) (h:H) (k:AV→H→Prop):Zl ty (gam J [(64,w64 c64)]) Tryd.f44 [a0,(.int .i64 a1)] h k=s44G J c64 a0 a1 h (fun r0 h=>k r0 h):=by kernel_rfl
def g44:Fun:=w44 s44
theorem QeS:Qt Tryd.prog 44 g44:=(QA QD QE (Qv (J:=J0) (Qc g64_ok (Ql Qn))) Tryd.func44 (fun args w=>by simp)).imp fun xs h k e0=>by
  obtain ⟨a0,xs0,rfl,e1⟩:=Qf e0
  obtain ⟨a1,xs1,rfl,e2⟩:=Qf e1
  obtain ⟨rfl,e3⟩:=Qi e2
  obtain ⟨a1,rfl,e4⟩:=QC.1 e3
  exact (s44_eq J0 s64 a0 a1 h k).mpr e4
def Na:AV→AV→AV→H→(H→Prop)→Prop:=Qea J0  (Qcs ty (UR J0 [(29,g29),(30,g30),(43,QeT),(44,g44),(45,g45)] [] Wh))
theorem i64_26_ok:ItOk Tryd.prog 64 (w64 Na):=(it_ok QD QE (GM (J:=J0) (Ql Qn) (Ql NL) (code_ok QD QE (GM (J:=J0) (Qc QaE (Qc NI (Qc Qdu (Qc QeS (Qc Qcp (Ql Qn)))))) (Ql NL) Jv))) Tryd.func64 (fun args w=>by simp)).imp fun xs h k e0=>by
  obtain ⟨a0,xs0,rfl,e1⟩:=Qf e0
  obtain ⟨a1,xs1,rfl,e2⟩:=Qf e1
  obtain ⟨a2,xs2,rfl,e3⟩:=Qf e2
  obtain ⟨rfl,e4⟩:=Qi e3
  exact (Qd9 J0  (Qcs ty (UR J0 [(29,g29),(30,g30),(43,QeT),(44,g44),(45,g45)] [] Wh)) a0 a1 a2 h k).mpr e4
def s26G (J:Qh) (c29:AV→Str→H→(Int→Int→H→Prop)→Prop) (c30:AV→H→(AV→H→Prop)→Prop) (c43:AV→H→(Int→H→Prop)→Prop) (c44:AV→Int→H→(AV→H→Prop)→Prop) (c45:AV→AV→H→(Int→H→Prop)→Prop) (i64:AV→AV→AV→H→(H→Prop)→Prop) (a0:AV) (a1:Str) (a2:AV) (h:H) (k:Int→H→Prop):Prop :=
ck (ZB a0) (
Qz (.cells false 25 [a0]) h fun n1 h2=>
Qz (.cells false 26 [(.int .i64 0)]) h2 fun n3 h4=>
ldV (AV.ptr n1 0) h4 fun v5=>
c29 v5 a1 h4 fun x7 x8 h6=>
Qz (.cells false 3 [(.int .i64 0)]) h6 fun n9 h10=>
stV (AV.ptr n9 0) (AV.int .i64 x7) h10 fun h11=>
fB (Bool.not (eqI x8 (Int.ofNat 0))) fun b12=>
br b12 (
stV (AV.ptr n3 0) (AV.int .i64 x8) h11 fun h13=>
ldI .i64 (AV.ptr n3 0) h13 fun x14=>
k x14 h13) (
ZH a2 fun x15=>
ldV (AV.ptr n1 0) h11 fun v16=>
c43 v16 h11 fun x18 h17=>
fB (ltI x18 (Int.ofNat x15)) fun b19=>
br b19 (
stV (AV.ptr n3 0) (AV.int .i64 (Int.ofNat 8)) h17 fun h20=>
ldI .i64 (AV.ptr n3 0) h20 fun x21=>
k x21 h20) (
J.jd (α:=AV × Unit) (fun v22 d23 h24=>
stV v22.1 (AV.int .i64 (Int.ofNat 0)) h24 fun h26=>
Qu (UR J [(29,w29 c29),(30,w30 c30),(43,w43 c43),(44,w44 c44),(45,w45 c45)] [(64,w64 i64)] Wh) d23 h26 fun h27=>
ldI .i64 v22.1 h27 fun x28=>
k x28 h27) fun j25=>
c44 a2 (Int.ofNat 64) h17 fun v30 h29=>
rfK (UR J [(29,w29 c29),(30,w30 c30),(43,w43 c43),(44,w44 c44),(45,w45 c45)] [(64,w64 i64)] Wh) v30 [27] (Qbg Tryd.f26 0) [a0,(AV.str a1),a2,(AV.ptr n1 0),AV.junk,AV.junk,(AV.ptr n3 0),(AV.ptr n9 0),(AV.int .i64 x8),AV.junk,AV.junk,(AV.tuple [(AV.int .i64 x7),(AV.int .i64 x8)]),v5,(AV.str a1),(AV.tuple [(AV.int .i64 x7),(AV.int .i64 x8)]),(AV.int .i64 x7),(AV.int .i64 x8),(AV.int .i64 x8),(AV.bool b12),AV.junk,a2,(AV.int .i64 (Int.ofNat x15)),v16,(AV.int .i64 x18),(AV.bool b19),a2,v30,AV.junk,AV.junk,AV.junk,AV.junk,AV.junk,AV.junk,AV.junk,AV.junk,AV.junk,AV.junk] h29 fun n31 n32 h33=>
Qe9 n31 n32 (fun d34 h35=>
j25 ((AV.ptr n3 0),()) d34 h35) (fun d34 h35=>
Qu (UR J [(29,w29 c29),(30,w30 c30),(43,w43 c43),(44,w44 c44),(45,w45 c45)] [(64,w64 i64)] Wh) d34 h35 fun h37=>
ldI .i64 (AV.ptr n3 0) h37 fun x38=>
k x38 h37) (fun i36 d34 h35=>
exB (Nat.beq i36 0) (fun d34 h35=>
j25 ((AV.ptr n3 0),()) d34 h35) (fun d34 h35=>
False) d34 h35) [] h33)))
def s26:AV→Str→AV→H→(Int→H→Prop)→Prop:=s26G J0 s29 s30 N5 s44 s45 Na
def w26 (c:AV→Str→AV→H→(Int→H→Prop)→Prop):Fun:=fun xs h k=>arg xs fun a0 xs=>arg xs fun a1 xs=>arg xs fun a2 xs=>QY xs <| asS a1 fun a1=>c a0 a1 a2 h fun r0 h=>k (.int .i64 r0) h
theorem s26_eq (J:Qh) (c29:AV→Str→H→(Int→Int→H→Prop)→Prop) (c30:AV→H→(AV→H→Prop)→Prop) (c43:AV→H→(Int→H→Prop)→Prop) (c44:AV→Int→H→(AV→H→Prop)→Prop) (c45:AV→AV→H→(Int→H→Prop)→Prop) (i64:AV→AV→AV→H→(H→Prop)→Prop) (a0:AV) (a1:Str) (a2:AV) (h:H) (k:AV→H→Prop):Zl ty (UR J [(29,w29 c29),(30,w30 c30),(43,w43 c43),(44,w44 c44),(45,w45 c45)] [(64,w64 i64)] Wh) Tryd.f26 [a0,(.str a1),a2] h k=s26G J c29 c30 c43 c44 c45 i64 a0 a1 a2 h (fun r0 h=>k (.int .i64 r0) h):=by kernel_rfl
def g26:Fun:=w26 s26
theorem Qe3:Qt Tryd.prog 26 g26:=(QA QD QE (GM (J:=J0) (Qc QaE (Qc NI (Qc Qdu (Qc QeS (Qc Qcp (Ql Qn)))))) (Qc i64_26_ok (Ql NL)) Jv) Tryd.func26 (fun args w=>by simp)).imp fun xs h k e0=>by
  obtain ⟨a0,xs0,rfl,e1⟩:=Qf e0
  obtain ⟨a1,xs1,rfl,e2⟩:=Qf e1
  obtain ⟨a2,xs2,rfl,e3⟩:=Qf e2
  obtain ⟨rfl,e4⟩:=Qi e3
  obtain ⟨a1,rfl,e5⟩:=ZJ.1 e4
  exact (s26_eq J0 s29 s30 N5 s44 s45 Na a0 a1 a2 h k).mpr e5
def s27G (J:Qh) (c29:AV→Str→H→(Int→Int→H→Prop)→Prop) (c46:AV→AV→H→(Int→H→Prop)→Prop) (c47:AV→AV→H→(Bool→H→Prop)→Prop) (a0:AV) (a1:Str) (h:H) (k:Int→H→Prop):Prop :=
c29 a0 a1 h fun x2 x3 h1=>
Qz (.cells false 3 [(.int .i64 0)]) h1 fun n4 h5=>
stV (AV.ptr n4 0) (AV.int .i64 x2) h5 fun h6=>
fB (Bool.not (eqI x3 (Int.ofNat 0))) fun b7=>
br b7 (
k x3 h6) (
c46 a0 (AV.func (.func 47) [] [(AV.ptr n4 0)]) h6 fun x9 h8=>
k x9 h8)
def s27:AV→Str→H→(Int→H→Prop)→Prop:=s27G J0 s29 s46 s47
def w27 (c:AV→Str→H→(Int→H→Prop)→Prop):Fun:=fun xs h k=>arg xs fun a0 xs=>arg xs fun a1 xs=>QY xs <| asS a1 fun a1=>c a0 a1 h fun r0 h=>k (.int .i64 r0) h
theorem s27_eq (J:Qh) (c29:AV→Str→H→(Int→Int→H→Prop)→Prop) (c46:AV→AV→H→(Int→H→Prop)→Prop) (c47:AV→AV→H→(Bool→H→Prop)→Prop) (a0:AV) (a1:Str) (h:H) (k:AV→H→Prop):Zl ty (gam J [(29,w29 c29),(46,w46 c46),(47,w47 c47)]) Tryd.f27 [a0,(.str a1)] h k=s27G J c29 c46 c47 a0 a1 h (fun r0 h=>k (.int .i64 r0) h):=by kernel_rfl
def g27:Fun:=w27 s27
theorem Qe2:Qt Tryd.prog 27 g27:=(QA QD QE (Qv (J:=J0) (Qc QaE (Qc QeR (Qc QeQ (Ql Qn))))) Tryd.func27 (fun args w=>by simp)).imp fun xs h k e0=>by
  obtain ⟨a0,xs0,rfl,e1⟩:=Qf e0
  obtain ⟨a1,xs1,rfl,e2⟩:=Qf e1
  obtain ⟨rfl,e3⟩:=Qi e2
  obtain ⟨a1,rfl,e4⟩:=ZJ.1 e3
  exact (s27_eq J0 s29 s46 s47 a0 a1 h k).mpr e4
def s8G (J:Qh) (c9:AV→H→(Int→H→Prop)→Prop) (c21:AV→H→(Int→H→Prop)→Prop) (c22:AV→H→(AV→Int→H→Prop)→Prop) (c23:AV→AV→H→(AV→Int→H→Prop)→Prop) (c24:Int→H→(Str→Int→H→Prop)→Prop) (c25:AV→Int→H→(Int→H→Prop)→Prop) (c26:AV→Str→AV→H→(Int→H→Prop)→Prop) (c27:AV→Str→H→(Int→H→Prop)→Prop) (a0:AV) (a1:AV) (h:H) (k:Int→Int→H→Prop):Prop :=
c21 a0 h fun x2 h1=>
fB (Bool.not (eqI x2 (Int.ofNat 0))) fun b3=>
br b3 (
k (Int.ofNat 0) x2 h1) (
c9 a1 h1 fun x5 h4=>
fB (Bool.not (eqI x5 (Int.ofNat 0))) fun b6=>
br b6 (
k (Int.ofNat 0) x5 h4) (
QQ a0 (
faK 1 a0 fun p7=>
ldI .i64 p7 h4 fun x8=>
fB (eqI x8 (Int.ofNat 1073741824)) fun b9=>
br b9 (
k (Int.ofNat 0) (Int.ofNat 3) h4) (
QQ a0 (
faK 1 a0 fun p10=>
ldI .i64 p10 h4 fun x11=>
fI (Qd .i64 (Int.add x11 (Int.ofNat 1))) fun x12=>
ck (ZB a1) (c22 (AV.agg [(AV.int .i64 x12),a1]) h4 fun v14 x15 h13=>
c23 AV.nils v14 h13 fun v17 x18 h16=>
QQ a0 (
faK 2 a0 fun p19=>
ldI .i64 p19 h16 fun x20=>
c24 x20 h16 fun s22 x23 h21=>
QQ a0 (
faK 0 a0 fun p24=>
ldV p24 h21 fun v25=>
c26 v25 s22 v17 h21 fun x27 h26=>
c25 a0 x27 h26 fun x29 h28=>
fB (Bool.not (eqI x29 (Int.ofNat 0))) fun b30=>
br b30 (
k (Int.ofNat 0) x29 h28) (
QQ a0 (
faK 0 a0 fun p31=>
ldV p31 h28 fun v32=>
c27 v32 s22 h28 fun x34 h33=>
c25 a0 x34 h33 fun x36 h35=>
fB (Bool.not (eqI x36 (Int.ofNat 0))) fun b37=>
br b37 (
k (Int.ofNat 0) x36 h35) (
QQ a0 (
faK 1 a0 fun p38=>
ldI .i64 p38 h35 fun x39=>
fI (Qd .i64 (Int.add x39 (Int.ofNat 1))) fun x40=>
QQ a0 (
faK 1 a0 fun p41=>
stV p41 (AV.int .i64 x40) h35 fun h42=>
QQ a0 (
faK 1 a0 fun p43=>
ldI .i64 p43 h42 fun x44=>
k x44 (Int.ofNat 0) h42))))))))))))))
def s8:AV→AV→H→(Int→Int→H→Prop)→Prop:=s8G J0 s9 s21 s22 s23 s24 s25 s26 s27
def w8 (c:AV→AV→H→(Int→Int→H→Prop)→Prop):Fun:=fun xs h k=>arg xs fun a0 xs=>arg xs fun a1 xs=>QY xs <| c a0 a1 h fun r0 r1 h=>k (.tuple [(.int .i64 r0),(.int .i64 r1)]) h
theorem s8_eq (J:Qh) (c9:AV→H→(Int→H→Prop)→Prop) (c21:AV→H→(Int→H→Prop)→Prop) (c22:AV→H→(AV→Int→H→Prop)→Prop) (c23:AV→AV→H→(AV→Int→H→Prop)→Prop) (c24:Int→H→(Str→Int→H→Prop)→Prop) (c25:AV→Int→H→(Int→H→Prop)→Prop) (c26:AV→Str→AV→H→(Int→H→Prop)→Prop) (c27:AV→Str→H→(Int→H→Prop)→Prop) (a0:AV) (a1:AV) (h:H) (k:AV→H→Prop):Zl ty (gam J [(9,w9 c9),(21,w21 c21),(22,w22 c22),(23,w23 c23),(24,w24 c24),(25,w25 c25),(26,w26 c26),(27,w27 c27)]) Tryd.f8 [a0,a1] h k=s8G J c9 c21 c22 c23 c24 c25 c26 c27 a0 a1 h (fun r0 r1 h=>k (.tuple [(.int .i64 r0),(.int .i64 r1)]) h):=by kernel_rfl
def g8:Fun:=w8 s8
theorem g8_ok:Qt Tryd.prog 8 g8:=(QA QD QE (Qv (J:=J0) (Qc QbI (Qc Qe6 (Qc Qe5 (Qc Qe4 (Qc QaG (Qc QaF (Qc Qe3 (Qc Qe2 (Ql Qn)))))))))) Tryd.func8 (fun args w=>by simp)).imp fun xs h k e0=>by
  obtain ⟨a0,xs0,rfl,e1⟩:=Qf e0
  obtain ⟨a1,xs1,rfl,e2⟩:=Qf e1
  obtain ⟨rfl,e3⟩:=Qi e2
  exact (s8_eq J0 s9 s21 s22 s23 s24 s25 s26 s27 a0 a1 h k).mpr e3
def g14:Fun:=Wb ty (gam J0 []) Tryd.f14
theorem g14_ok:Qt Tryd.prog 14 g14:=Ya QD QE (Qv (J:=J0) (Ql Qn)) Tryd.func14 (fun args w=>by simp)
def g15:Fun:=Wb ty (gam J0 []) Tryd.f15
theorem g15_ok:Qt Tryd.prog 15 g15:=Ya QD QE (Qv (J:=J0) (Ql Qn)) Tryd.func15 (fun args w=>by simp)
def g16:Fun:=Wb ty (gam J0 []) Tryd.f16
theorem g16_ok:Qt Tryd.prog 16 g16:=Ya QD QE (Qv (J:=J0) (Ql Qn)) Tryd.func16 (fun args w=>by simp)
def g4:Fun:=Wb ty (gam J0 [(5,g5),(6,g6),(8,g8),(14,g14),(15,g15),(16,g16)]) Tryd.f4
theorem g4_ok:Qt Tryd.prog 4 g4:=Ya QD QE (Qv (J:=J0) (Qc g5_ok (Qc g6_ok (Qc g8_ok (Qc g14_ok (Qc g15_ok (Qc g16_ok (Ql Qn)))))))) Tryd.func4 (fun args w=>by simp)
def s7G (J:Qh) (a0:AV) (h:H) (k:Bool→H→Prop):Prop :=
J.lp (α:=AV × AV × Unit) (fun r4 v1 d2 h3=>
ZH v1.1 fun x5=>
asI .i64 v1.2.1 fun x6=>
fB (ltI x6 (Int.ofNat x5)) fun b7=>
br b7 (
ixK 3 v1.1 v1.2.1 fun p8=>
faK 0 p8 fun p9=>
ldS p9 h3 fun s10=>
fB (ltI (Int.ofNat 600) (Int.ofNat s10.len)) fun b11=>
J.jn (fun v12 h13=>
J.jn (fun v15 h16=>
J.jn (fun v18 h19=>
J.jn (fun v22 h23=>
J.jn (fun v26 h27=>
J.jn (fun v30 h31=>
J.jn (fun v34 h35=>
J.jn (fun v39 h40=>
J.jn (fun v42 h43=>
J.jn (fun v45 h46=>
J.jn (fun v48 h49=>
J.jn (fun v52 h53=>
J.jn (fun v56 h57=>
J.jn (fun v60 h61=>
J.jn (fun v64 h65=>
J.jn (fun v69 h70=>
Q3 (AV.bool b11) (AV.bool true) v69 fun b73=>
J.jn (fun v74 h75=>
J.jn (fun v77 h78=>
J.jn (fun v80 h81=>
J.jn (fun v84 h85=>
J.jn (fun v88 h89=>
J.jn (fun v92 h93=>
J.jn (fun v96 h97=>
Q3 (AV.bool b73) (AV.bool true) v96 fun b101=>
br b101 (
Qu (gam J []) d2 h97 fun h102=>
k false h102) (
asI .i64 v1.2.1 fun x103=>
fI (Qd .i64 (Int.add x103 (Int.ofNat 1))) fun x104=>
r4 (v1.1,(AV.int .i64 x104),()) d2 h97)) fun j98=>
br b73 (
j98 Qb h93) (
asI .i64 v92 fun x99=>
fB (ltI (Int.ofNat 4105) x99) fun b100=>
j98 (AV.bool b100) h93)) fun j94=>
br b73 (
j94 Qb h89) (
asS v88 fun s95=>
j94 (AV.int .i64 (Int.ofNat s95.len)) h89)) fun j90=>
br b73 (
j90 Qb h85) (
ldS v84 h85 fun s91=>
j90 (AV.str s91) h85)) fun j86=>
br b73 (
j86 Qb h81) (
faK 1 v80 fun p87=>
j86 p87 h81)) fun j82=>
br b73 (
j82 Qb h78) (
ixK 3 v74 v77 fun p83=>
j82 p83 h78)) fun j79=>
br b73 (
j79 Qb h75) (
j79 v1.2.1 h75)) fun j76=>
br b73 (
j76 Qb h70) (
j76 v1.1 h70)) fun j71=>
br b11 (
j71 Qb h65) (
Q3 v39 v64 (AV.bool false) fun b72=>
j71 (AV.bool b72) h65)) fun j66=>
ZW v39 (fun b105=>
br b105 (
asI .i64 v60 fun x67=>
fB (Bool.not (ltI (Int.ofNat 4096) x67)) fun b68=>
j66 (AV.bool b68) h61) (
j66 Qb h61)) (
j66 Qb h61)) fun j62=>
ZW v39 (fun b106=>
br b106 (
asS v56 fun s63=>
j62 (AV.int .i64 (Int.ofNat s63.len)) h57) (
j62 Qb h57)) (
j62 Qb h57)) fun j58=>
ZW v39 (fun b107=>
br b107 (
ldS v52 h53 fun s59=>
j58 (AV.str s59) h53) (
j58 Qb h53)) (
j58 Qb h53)) fun j54=>
ZW v39 (fun b108=>
br b108 (
faK 1 v48 fun p55=>
j54 p55 h49) (
j54 Qb h49)) (
j54 Qb h49)) fun j50=>
ZW v39 (fun b109=>
br b109 (
ixK 3 v42 v45 fun p51=>
j50 p51 h46) (
j50 Qb h46)) (
j50 Qb h46)) fun j47=>
ZW v39 (fun b110=>
br b110 (
j47 v1.2.1 h43) (
j47 Qb h43)) (
j47 Qb h43)) fun j44=>
ZW v39 (fun b111=>
br b111 (
j44 v1.1 h40) (
j44 Qb h40)) (
j44 Qb h40)) fun j41=>
br b11 (
j41 Qb h35) (
j41 v34 h35)) fun j36=>
br b11 (
j36 Qb h31) (
asI .i64 v30 fun x37=>
fB (ltI (Int.ofNat 600) x37) fun b38=>
j36 (AV.bool b38) h31)) fun j32=>
br b11 (
j32 Qb h27) (
asS v26 fun s33=>
j32 (AV.int .i64 (Int.ofNat s33.len)) h27)) fun j28=>
br b11 (
j28 Qb h23) (
ldS v22 h23 fun s29=>
j28 (AV.str s29) h23)) fun j24=>
br b11 (
j24 Qb h19) (
faK 1 v18 fun p25=>
j24 p25 h19)) fun j20=>
br b11 (
j20 Qb h16) (
ixK 3 v12 v15 fun p21=>
j20 p21 h16)) fun j17=>
br b11 (
j17 Qb h13) (
j17 v1.2.1 h13)) fun j14=>
br b11 (
j14 Qb h3) (
j14 v1.1 h3)) (
Qu (gam J []) d2 h3 fun h112=>
k true h112)) (a0,(AV.int .i64 (Int.ofNat 0)),()) [] h
def s7:AV→H→(Bool→H→Prop)→Prop:=s7G J0
def w7 (c:AV→H→(Bool→H→Prop)→Prop):Fun:=fun xs h k=>arg xs fun a0 xs=>QY xs <| c a0 h fun r0 h=>k (.bool r0) h
theorem s7_eq (J:Qh) (a0:AV) (h:H) (k:AV→H→Prop):Zl ty (gam J []) Tryd.f7 [a0] h k=s7G J  a0 h (fun r0 h=>k (.bool r0) h):=by kernel_rfl
def g7:Fun:=w7 s7
theorem g7_ok:Qt Tryd.prog 7 g7:=(QA QD QE (Qv (J:=J0) (Ql Qn)) Tryd.func7 (fun args w=>by simp)).imp fun xs h k e0=>by
  obtain ⟨a0,xs0,rfl,e1⟩:=Qf e0
  obtain ⟨rfl,e2⟩:=Qi e1
  exact (s7_eq J0  a0 h k).mpr e2
def Qeq (J:Qh) (a0:Int) (a1:Int) (h:H) (k:Int→H→Prop):Prop :=
ck (Bool.not (eqI a1 0)) (fI (Int.tmod a0 a1) fun x1=>
J.jd (α:=AV × Unit) (fun v2 d3 h4=>
Qu (gam J []) d3 h4 fun h6=>
asI .i64 v2.1 fun x7=>
k x7 h6) fun j5=>
fB (ltI x1 (Int.ofNat 0)) fun b8=>
br b8 (
fI (Qd .i64 (Int.add x1 a1)) fun x9=>
j5 ((AV.int .i64 x9),()) [] h) (
j5 ((AV.int .i64 x1),()) [] h))
def s11:Int→Int→H→(Int→H→Prop)→Prop:=Qeq J0
def w11 (c:Int→Int→H→(Int→H→Prop)→Prop):Fun:=fun xs h k=>arg xs fun a0 xs=>arg xs fun a1 xs=>QY xs <| asI .i64 a0 fun a0=>asI .i64 a1 fun a1=>c a0 a1 h fun r0 h=>k (.int .i64 r0) h
theorem s11_eq (J:Qh) (a0:Int) (a1:Int) (h:H) (k:AV→H→Prop):Zl ty (gam J []) Tryd.f11 [(.int .i64 a0),(.int .i64 a1)] h k=Qeq J  a0 a1 h (fun r0 h=>k (.int .i64 r0) h):=by kernel_rfl
def g11:Fun:=w11 s11
theorem g11_ok:Qt Tryd.prog 11 g11:=(QA QD QE (Qv (J:=J0) (Ql Qn)) Tryd.func11 (fun args w=>by simp)).imp fun xs h k e0=>by
  obtain ⟨a0,xs0,rfl,e1⟩:=Qf e0
  obtain ⟨a1,xs1,rfl,e2⟩:=Qf e1
  obtain ⟨rfl,e3⟩:=Qi e2
  obtain ⟨a0,rfl,e4⟩:=QC.1 e3
  obtain ⟨a1,rfl,e5⟩:=QC.1 e4
  exact (s11_eq J0  a0 a1 h k).mpr e5
def QdP (J:Qh) (a0:Int) (h:H) (k:Int→H→Prop):Prop :=
J.jd (α:=AV × AV × Unit) (fun v1 d2 h3=>
J.jd (α:=AV × AV × Unit) (fun v5 d6 h7=>
asI .u32 v5.1 fun x9=>
fI (Qd .u8 x9) fun x10=>
WN (AV.str ⟨256,496986003408712215933005303621146343841837811690876167382323004466384420695090407243345123874780946046625255262057845613767806773758184921447759720770971536008171983842311960805720366577116933250839345203839274948261284255908394484732272583221484877694546905335834403051067785895034095251181560891789708940188598129052595634438001880866652824740680664595948164050600812232986714152902334120417949232733424961741260388658846598210939813666227264727603044226856020347194099943897342244906131705541414413428559898943151040826816076322978570758226444464494629814583418847495712557856038296917933182380796641777551368⟩) (AV.int .u8 x10) fun x11=>
fI (Qd .i64 x11) fun x12=>
asI .i64 v5.2.1 fun x13=>
fI (Qd .i64 (Int.add x13 x12)) fun x14=>
Qu (gam J []) d6 h7 fun h15=>
k x14 h15) fun j8=>
asI .u32 v1.1 fun x16=>
fB (Bool.not (ltI x16 (Int.ofNat 256))) fun b17=>
br b17 (
asI .u32 v1.1 fun x18=>
fI (Ve x18 (Y2 8 (IntKind.bits .u32))) fun x19=>
asI .i64 v1.2.1 fun x20=>
fI (Qd .i64 (Int.add x20 (Int.ofNat 8))) fun x21=>
j8 ((AV.int .u32 x19),(AV.int .i64 x21),()) d2 h3) (
j8 (v1.1,v1.2.1,()) d2 h3)) fun j4=>
fB (Bool.not (ltI a0 (Int.ofNat 65536))) fun b22=>
br b22 (
fI (Ve a0 (Y2 16 (IntKind.bits .u32))) fun x23=>
j4 ((AV.int .u32 x23),(AV.int .i64 (Int.ofNat 16)),()) [] h) (
j4 ((AV.int .u32 a0),(AV.int .i64 (Int.ofNat 0)),()) [] h)
def s32:Int→H→(Int→H→Prop)→Prop:=QdP J0
def w32 (c:Int→H→(Int→H→Prop)→Prop):Fun:=fun xs h k=>arg xs fun a0 xs=>QY xs <| asI .u32 a0 fun a0=>c a0 h fun r0 h=>k (.int .i64 r0) h
theorem s32_eq (J:Qh) (a0:Int) (h:H) (k:AV→H→Prop):Zl ty (gam J []) Tryd.f32 [(.int .u32 a0)] h k=QdP J  a0 h (fun r0 h=>k (.int .i64 r0) h):=by kernel_rfl
def g32:Fun:=w32 s32
theorem g32_ok:Qt Tryd.prog 32 g32:=(QA QD QE (Qv (J:=J0) (Ql Qn)) Tryd.func32 (fun args w=>by simp)).imp fun xs h k e0=>by
  obtain ⟨a0,xs0,rfl,e1⟩:=Qf e0
  obtain ⟨rfl,e2⟩:=Qi e1
  obtain ⟨a0,rfl,e3⟩:=QC.1 e2
  exact (s32_eq J0  a0 h k).mpr e3
def Qep (J:Qh) (c32:Int→H→(Int→H→Prop)→Prop) (a0:AV) (a1:Int) (a2:Int) (h:H) (k:AV→Int→H→Prop):Prop :=
c32 a2 h fun x2 h1=>
fI (Qd .i64 (Int.sub x2 (Int.ofNat 1))) fun x3=>
fB (ltI a1 (Int.ofNat 0)) fun b4=>
J.jn (fun v5 h6=>
J.jn (fun v8 h9=>
J.jn (fun v13 h14=>
J.jn (fun v16 h17=>
J.jn (fun v19 h20=>
J.jn (fun v22 h23=>
J.jn (fun v26 h27=>
J.jn (fun v31 h32=>
J.jn (fun v36 h37=>
J.jn (fun v39 h40=>
J.jn (fun v45 h46=>
J.jn (fun v51 h52=>
Q3 (AV.bool b4) (AV.bool true) v51 fun b55=>
br b55 (
k AV.nils (Int.ofNat 2) h52) (
apB (.slice 5) 5 AV.nils a0 h52 fun v56 h57=>
J.lp (α:=AV × AV × AV × AV × AV × Unit) (fun r61 v58 d59 h60=>
asI .i64 v58.2.2.2.2.1 fun x62=>
asI .i64 v58.2.2.1 fun x63=>
fB (Bool.not (ltI x63 x62)) fun b64=>
br b64 (
J.jd (α:=AV × AV × AV × AV × AV × Unit) (fun v65 d66 h67=>
asI .i64 v65.2.2.2.2.1 fun x69=>
fI (Qd .i64 (Int.add x69 (Int.ofNat 1))) fun x70=>
r61 (v65.1,v65.2.1,v65.2.2.1,v65.2.2.2.1,(AV.int .i64 x70),()) d66 h67) fun j68=>
asI .u32 v58.2.1 fun x71=>
YU v58.2.2.2.2.1 fun n72=>
fI (Ve x71 (Y2 n72 (IntKind.bits .u32))) fun x73=>
fI (DM .u32 x73 (Int.ofNat 1)) fun x74=>
fB (eqI x74 (Int.ofNat 1)) fun b75=>
br b75 (
asI .i64 v58.1 fun x76=>
asI .i64 v58.2.2.2.2.1 fun x77=>
fI (Qd .i64 (Int.add x76 x77)) fun x78=>
ck (Bool.not (eqI (Int.ofNat 8) 0)) (fI (Qd .i64 (Int.tdiv x78 (Int.ofNat 8))) fun x79=>
ixK 1 v58.2.2.2.1 (AV.int .i64 x79) fun p80=>
ldI .u8 p80 h60 fun x81=>
asI .i64 v58.1 fun x82=>
asI .i64 v58.2.2.2.2.1 fun x83=>
fI (Qd .i64 (Int.add x82 x83)) fun x84=>
ck (Bool.not (eqI (Int.ofNat 8) 0)) (fI (Int.tmod x84 (Int.ofNat 8)) fun x85=>
YU (AV.int .i64 x85) fun n86=>
fI (VQ .u8 (Int.ofNat 1) n86) fun x87=>
fI (VF .u8 x81 x87) fun x88=>
ixK 1 v58.2.2.2.1 (AV.int .i64 x79) fun p89=>
stV p89 (AV.int .u8 x88) h60 fun h90=>
j68 (v58.1,v58.2.1,v58.2.2.1,v58.2.2.2.1,v58.2.2.2.2.1,()) d59 h90))) (
j68 (v58.1,v58.2.1,v58.2.2.1,v58.2.2.2.1,v58.2.2.2.2.1,()) d59 h60)) (
Qu (gam J [(32,w32 c32)]) d59 h60 fun h91=>
k v58.2.2.2.1 (Int.ofNat 0) h91)) ((AV.int .i64 a1),(AV.int .u32 a2),(AV.int .i64 x3),v56,(AV.int .i64 (Int.ofNat 0)),()) [] h57)) fun j53=>
br b4 (
j53 Qb h46) (
Q3 v13 v45 (AV.bool false) fun b54=>
j53 (AV.bool b54) h46)) fun j47=>
ZW v13 (fun b92=>
br b92 (
asI .i64 v16 fun x48=>
asI .i64 v39 fun x49=>
fB (ltI x49 x48) fun b50=>
j47 (AV.bool b50) h40) (
j47 Qb h40)) (
j47 Qb h40)) fun j41=>
ZW v13 (fun b93=>
br b93 (
asI .i64 v31 fun x42=>
asI .i64 v36 fun x43=>
fI (Qd .i64 (Int.sub x42 x43)) fun x44=>
j41 (AV.int .i64 x44) h37) (
j41 Qb h37)) (
j41 Qb h37)) fun j38=>
ZW v13 (fun b94=>
br b94 (
j38 (AV.int .i64 x3) h32) (
j38 Qb h32)) (
j38 Qb h32)) fun j33=>
ZW v13 (fun b95=>
br b95 (
asI .i64 v26 fun x34=>
fI (Qd .i64 (Int.sub x34 (Int.ofNat 1))) fun x35=>
j33 (AV.int .i64 x35) h27) (
j33 Qb h27)) (
j33 Qb h27)) fun j28=>
ZW v13 (fun b96=>
br b96 (
asI .i64 v22 fun x29=>
fI (Qd .i64 (Int.mul (Int.ofNat 8) x29)) fun x30=>
j28 (AV.int .i64 x30) h23) (
j28 Qb h23)) (
j28 Qb h23)) fun j24=>
ZW v13 (fun b97=>
br b97 (
ZH v19 fun x25=>
j24 (AV.int .i64 (Int.ofNat x25)) h20) (
j24 Qb h20)) (
j24 Qb h20)) fun j21=>
ZW v13 (fun b98=>
br b98 (
j21 a0 h17) (
j21 Qb h17)) (
j21 Qb h17)) fun j18=>
ZW v13 (fun b99=>
br b99 (
j18 (AV.int .i64 a1) h14) (
j18 Qb h14)) (
j18 Qb h14)) fun j15=>
br b4 (
j15 Qb h9) (
j15 v8 h9)) fun j10=>
br b4 (
j10 Qb h6) (
asI .i64 v5 fun x11=>
fB (Bool.not (ltI x11 (Int.ofNat 0))) fun b12=>
j10 (AV.bool b12) h6)) fun j7=>
br b4 (
j7 Qb h1) (
j7 (AV.int .i64 x3) h1)
def s12:AV→Int→Int→H→(AV→Int→H→Prop)→Prop:=Qep J0 s32
def w12 (c:AV→Int→Int→H→(AV→Int→H→Prop)→Prop):Fun:=fun xs h k=>arg xs fun a0 xs=>arg xs fun a1 xs=>arg xs fun a2 xs=>QY xs <| asI .i64 a1 fun a1=>asI .u32 a2 fun a2=>c a0 a1 a2 h fun r0 r1 h=>k (.tuple [r0,(.int .i64 r1)]) h
theorem s12_eq (J:Qh) (c32:Int→H→(Int→H→Prop)→Prop) (a0:AV) (a1:Int) (a2:Int) (h:H) (k:AV→H→Prop):Zl ty (gam J [(32,w32 c32)]) Tryd.f12 [a0,(.int .i64 a1),(.int .u32 a2)] h k=Qep J c32 a0 a1 a2 h (fun r0 r1 h=>k (.tuple [r0,(.int .i64 r1)]) h):=by kernel_rfl
def g12:Fun:=w12 s12
theorem g12_ok:Qt Tryd.prog 12 g12:=(QA QD QE (Qv (J:=J0) (Qc g32_ok (Ql Qn))) Tryd.func12 (fun args w=>by simp)).imp fun xs h k e0=>by
  obtain ⟨a0,xs0,rfl,e1⟩:=Qf e0
  obtain ⟨a1,xs1,rfl,e2⟩:=Qf e1
  obtain ⟨a2,xs2,rfl,e3⟩:=Qf e2
  obtain ⟨rfl,e4⟩:=Qi e3
  obtain ⟨a1,rfl,e5⟩:=QC.1 e4
  obtain ⟨a2,rfl,e6⟩:=QC.1 e5
  exact (s12_eq J0 s32 a0 a1 a2 h k).mpr e6
def Qeo (J:Qh) (c30:AV→H→(AV→H→Prop)→Prop) (c33:Str→H→(Bool→H→Prop)→Prop) (a0:AV) (a1:Str) (a2:Int) (a3:Int) (h:H) (k:Int→H→Prop):Prop :=
nilB 0 a0 fun b1=>
J.jn (fun v2 h3=>
J.jn (fun v5 h6=>
J.jn (fun v8 h9=>
J.jn (fun v12 h13=>
J.jn (fun v16 h17=>
Q3 (AV.bool b1) (AV.bool true) v16 fun b21=>
br b21 (
k (Int.ofNat 1) h17) (
c33 a1 h17 fun b23 h22=>
fB (Bool.not b23) fun b24=>
br b24 (
k (Int.ofNat 2) h22) (
QQ a0 (
faK 0 a0 fun p25=>
faK 1 p25 fun p26=>
ldV p26 h22 fun v27=>
op' (Q5 ty 9 3 true v27 (AV.str a1) h22) fun v28=>
asTup v28 fun l29=>
op' (Q8 l29 0) fun v30=>
asI .i64 v30 fun x31=>
asTup v28 fun l32=>
op' (Q8 l32 1) fun v33=>
asB v33 fun b34=>
fB (Bool.not b34) fun b35=>
br b35 (
k (Int.ofNat 4) h22) (
fB (ltI a2 (Int.ofNat 0)) fun b36=>
J.jn (fun v37 h38=>
J.jn (fun v40 h41=>
J.jn (fun v43 h44=>
J.jn (fun v46 h47=>
J.jn (fun v50 h51=>
J.jn (fun v54 h55=>
J.jn (fun v58 h59=>
J.jn (fun v61 h62=>
J.jn (fun v65 h66=>
J.jn (fun v69 h70=>
Q3 (AV.bool b36) (AV.bool true) v69 fun b75=>
br b75 (
k (Int.ofNat 2) h70) (
QQ a0 (
faK 0 a0 fun p76=>
faK 0 p76 fun p77=>
ldV p77 h70 fun v78=>
op' (Q5 ty 3 39 false v78 (AV.int .i64 x31) h70) fun v79=>
c30 v79 h70 fun v81 h80=>
ixK 1 v81 (AV.int .i64 a2) fun p82=>
ldI .u8 p82 h80 fun x83=>
fI (VF .u8 x83 a3) fun x84=>
ixK 1 v81 (AV.int .i64 a2) fun p85=>
stV p85 (AV.int .u8 x84) h80 fun h86=>
QQ a0 (
faK 0 a0 fun p87=>
faK 0 p87 fun p88=>
ldV p88 h86 fun v89=>
op' (Y3 ty 3 v89 (AV.int .i64 x31) v81 h86) fun k90=>
Yy k90.1 k90.2 h86 fun h91=>
k (Int.ofNat 0) h91)))) fun j71=>
br b36 (
j71 Qb h66) (
asI .i64 v37 fun x72=>
asI .i64 v65 fun x73=>
fB (Bool.not (ltI x72 x73)) fun b74=>
j71 (AV.bool b74) h66)) fun j67=>
br b36 (
j67 Qb h62) (
ZH v61 fun x68=>
j67 (AV.int .i64 (Int.ofNat x68)) h62)) fun j63=>
br b36 (
j63 Qb h59) (
op' (Q5 ty 3 39 false v54 v58 h59) fun v64=>
j63 v64 h59)) fun j60=>
br b36 (
j60 Qb h55) (
j60 (AV.int .i64 x31) h55)) fun j56=>
br b36 (
j56 Qb h51) (
ldV v50 h51 fun v57=>
j56 v57 h51)) fun j52=>
br b36 (
j52 Qb h47) (
faK 0 v46 fun p53=>
j52 p53 h47)) fun j48=>
br b36 (
j48 Qb h44) (
faK 0 v43 fun p49=>
j48 p49 h44)) fun j45=>
br b36 (
j45 Qb h41) (
QQ v40 (
j45 v40 h41))) fun j42=>
br b36 (
j42 Qb h38) (
j42 a0 h38)) fun j39=>
br b36 (
j39 Qb h22) (
j39 (AV.int .i64 a2) h22)))))) fun j18=>
br b1 (
j18 Qb h13) (
asB v12 fun b19=>
fB (Bool.not b19) fun b20=>
j18 (AV.bool b20) h13)) fun j14=>
br b1 (
j14 Qb h9) (
ldB v8 h9 fun b15=>
j14 (AV.bool b15) h9)) fun j10=>
br b1 (
j10 Qb h6) (
faK 9 v5 fun p11=>
j10 p11 h6)) fun j7=>
br b1 (
j7 Qb h3) (
QQ v2 (
j7 v2 h3))) fun j4=>
br b1 (
j4 Qb h) (
j4 a0 h)
def s13:AV→Str→Int→Int→H→(Int→H→Prop)→Prop:=Qeo J0 s30 s33
def w13 (c:AV→Str→Int→Int→H→(Int→H→Prop)→Prop):Fun:=fun xs h k=>arg xs fun a0 xs=>arg xs fun a1 xs=>arg xs fun a2 xs=>arg xs fun a3 xs=>QY xs <| asS a1 fun a1=>asI .i64 a2 fun a2=>asI .u8 a3 fun a3=>c a0 a1 a2 a3 h fun r0 h=>k (.int .i64 r0) h
theorem s13_eq (J:Qh) (c30:AV→H→(AV→H→Prop)→Prop) (c33:Str→H→(Bool→H→Prop)→Prop) (a0:AV) (a1:Str) (a2:Int) (a3:Int) (h:H) (k:AV→H→Prop):Zl ty (gam J [(30,w30 c30),(33,w33 c33)]) Tryd.f13 [a0,(.str a1),(.int .i64 a2),(.int .u8 a3)] h k=Qeo J c30 c33 a0 a1 a2 a3 h (fun r0 h=>k (.int .i64 r0) h):=by kernel_rfl
def g13:Fun:=w13 s13
theorem g13_ok:Qt Tryd.prog 13 g13:=(QA QD QE (Qv (J:=J0) (Qc NI (Qc Qe1 (Ql Qn)))) Tryd.func13 (fun args w=>by simp)).imp fun xs h k e0=>by
  obtain ⟨a0,xs0,rfl,e1⟩:=Qf e0
  obtain ⟨a1,xs1,rfl,e2⟩:=Qf e1
  obtain ⟨a2,xs2,rfl,e3⟩:=Qf e2
  obtain ⟨a3,xs3,rfl,e4⟩:=Qf e3
  obtain ⟨rfl,e5⟩:=Qi e4
  obtain ⟨a1,rfl,e6⟩:=ZJ.1 e5
  obtain ⟨a2,rfl,e7⟩:=QC.1 e6
  obtain ⟨a3,rfl,e8⟩:=QC.1 e7
  exact (s13_eq J0 s30 s33 a0 a1 a2 a3 h k).mpr e8
def g3:Fun:=Wb ty (gam J0 [(4,g4),(5,g5),(6,g6),(7,g7),(8,g8),(9,g9),(10,g10),(11,g11),(12,g12),(13,g13)]) Tryd.f3
end Go.Proofs.YtfgdelkdmdmfgaaDoor
