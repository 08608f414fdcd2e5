import Derived.Test.YtbcfpeelkaoljaaDoorAmS2
noncomputable section
namespace Go.Proofs.YtbcfpeelkaoljaaDoor
open Go Go.Am
set_option linter.all false
theorem Wu (p:AV × AV):∀ l:List (AV × AV),(VB p l).Perm (p::l)
  | []=>.refl _
  | q :: r => by
    unfold VB
    split
    · exact .refl _
    · exact .trans (.cons q (Wu p r)) (.swap p q r)
theorem DW {kd:Kd} {k:AV}:∀ {l:List (AV × AV)},Zw kd k l=some none→k ∉ l.map (·.1)
  | [],_=>by simp
  | p :: r, h => by
    unfold Zw at h
    split at h
    · cases h
    · rename_i x h1 h2
      injection h with h;subst h
      have ih:=DW h2
      have:=YE h1
      rw [List.map_cons,List.mem_cons]
      rintro (e | e)
      · exact absurd (this.2 e) (by simp)
      · exact ih e
    · cases h
def smC (v:AV) (h:H) (k:Nat→List (AV × AV)→Prop):Prop :=
  match v with
  | .map id => match h.get id with
    | .smap es=>k id es
    | _=>False
  | _=>False
theorem smC_imp {v:AV} {h:H} {k:Nat→List (AV × AV)→Prop} (e:smC v h k):∃ id es,v=.map id∧h.get id=.smap es∧k id es:=by
  unfold smC at e
  split at e
  · rename_i id
    split at e
    · rename_i es hg;exact ⟨id,es,rfl,hg,e⟩
    · exact e.elim
  · exact e.elim
def QdB (v:AV) (h:H) (es:List (AV × AV)):List (AV × AV)→(List (AV × AV)→Prop)→Prop :=
  List.rec (motive:=fun _=>List (AV × AV)→(List (AV × AV)→Prop)→Prop) (fun acc k=>k acc) (fun e _ ih acc k=>asI .i64 e.2 fun x=>op' (QW ty 3 64 false v (AV.int .i64 x) h) fun w=>op' (Zw (.int .i64) (AV.int .i64 x) acc) fun o=>
    match o with
    | none=>ih (VB (AV.int .i64 x,w) acc) k
    | some _=>False) es
def ent (v:AV) (h:H) (e:AV × AV):AV × AV:=(e.2,(QW ty 3 64 false v e.2 h).getD .junk)
def Qe0 (p:AV × AV):Prop:=∃ x,p.1=.int .i64 x
theorem DO {v : AV} {h : H} : ∀ {es acc : List (AV × AV)} {k : List (AV × AV) → Prop}, QdB v h es acc k → (acc.map (·.1)).Nodup →
    ∃ kept,k kept∧(∀ e∈es,∃ x w,e.2=.int .i64 x∧QW ty 3 64 false v (.int .i64 x) h=some w)∧kept.Perm (acc++es.map (ent v h))∧((acc++es.map (ent v h)).map (·.1)).Nodup
  | [],acc,k,q,hn=>⟨acc,q,by simp,by simp,by simpa using hn⟩
  | e :: es, acc, k, q, hn => by
    have q:asI .i64 e.2 fun x=>op' (QW ty 3 64 false v (AV.int .i64 x) h) fun w=>op' (Zw (.int .i64) (AV.int .i64 x) acc) fun o=>
      match o with
      | none=>QdB v h es (VB (AV.int .i64 x,w) acc) k
      | some _=>False:=q
    rw [QI] at q
    obtain ⟨x,hx,q⟩:=q
    rw [QO] at q
    obtain ⟨w,hw,q⟩:=q
    rw [QO] at q
    obtain ⟨o,ho,q⟩:=q
    cases o with
    | some _=>exact q.elim
    | none =>
      have hnot:=DW ho
      have p1:=Wu (AV.int .i64 x,w) acc
      have hn1:((VB (AV.int .i64 x,w) acc).map (·.1)).Nodup:=by
        rw [(p1.map (·.1)).nodup_iff,List.map_cons,List.nodup_cons]
        exact ⟨hnot,hn⟩
      obtain ⟨kept,k1,k2,k3,k4⟩:=DO q hn1
      have he:ent v h e=(AV.int .i64 x,w):=by unfold ent;rw [hx,hw];rfl
      have p2:(VB (AV.int .i64 x,w) acc++es.map (ent v h)).Perm (acc++(e::es).map (ent v h)):=by
        rw [List.map_cons,he]
        exact (p1.append_right _).trans List.perm_middle.symm
      refine ⟨kept,k1,fun e' he'=>?_,k3.trans p2,(p2.map (·.1)).nodup_iff.1 k4⟩
      rcases List.mem_cons.1 he' with rfl | he'
      · exact ⟨x,w,hx,hw⟩
      · exact k2 e' he'
theorem NK {x : Int} : ∀ {l : List (AV × AV)}, (∀ p ∈ l, Qe0 p) → AV.int .i64 x ∉ l.map (·.1) → Zw (.int .i64) (.int .i64 x) l = some none
  | [],_,_=>rfl
  | p :: r, hi, hn => by
    obtain ⟨y,hy⟩:=hi p List.mem_cons_self
    have ih:=NK (x:=x) (l:=r) (fun p hp=>hi p (List.mem_cons_of_mem _ hp)) (fun h=>hn (by rw [List.map_cons];exact List.mem_cons_of_mem _ h))
    have hk:Z7 (.int .i64) (.int .i64 x) p.1=some false:=by
      have hxy:eqI x y=false:=by
        cases hc:eqI x y with
        | false=>rfl
        | true=>rw [QdL] at hc;subst hc;exact absurd (by rw [List.map_cons,hy];exact List.mem_cons_self) hn
      rw [hy];unfold Z7
      simp only [keq,hxy]
      rfl
    unfold Zw
    rw [hk,ih]
structure Shows3 (m r n:Nat) (es0:List (AV × AV)) (es:List (AV × AV × Nat)) (clock:Nat) (acc:List (AV × AV)) (hB h:H):Prop where
  was:hB.get m=.smap es0
  free:hB.get r=.dead
  new:hB.get n=.smap []
  mn:m≠n
  mp:h.get m=.amap es clock
  kept:h.get n=.smap acc
  shown:YJ es0 es clock
  same:∀ id,id≠m→id≠r→id≠n→h.get id=hB.get id
theorem Shows3.row {m r n:Nat} {es0:List (AV × AV)} {es:List (AV × AV × Nat)} {clock:Nat} {acc:List (AV × AV)} {hB h:H} (s:Shows3 m r n es0 es clock acc hB h) {p:AV} {k:AV→Prop} (q:ldP p hB k):ldP p h k:=by
  unfold ldP at q ⊢
  rw [Go.Am.asPtr_iff] at q ⊢
  obtain ⟨i,o,rfl,q⟩:=q
  refine ⟨i,o,rfl,?_⟩
  by_cases h1:i=m
  · subst h1;rw [s.was] at q;exact q.elim
  · by_cases h2 : i = r
    · subst h2;rw [s.free] at q;exact q.elim
    · by_cases h3 : i = n
      · subst h3;rw [s.new] at q;exact q.elim
      · rw [s.same i h1 h2 h3];exact q
theorem Shows3.look {m r n f:Nat} {es0:List (AV × AV)} {es:List (AV × AV × Nat)} {clock:Nat} {acc:List (AV × AV)} {hB h:H} (s:Shows3 m r n es0 es clock acc hB h) (hf:f≠n) {T:Ty} {kt e:Nat} {ok:Bool} {i v:AV} (q:QW T kt e ok (.map f) i hB=some v):QW T kt e ok (.map f) i h=some v:=by
  unfold QW at q ⊢
  simp only at q ⊢
  by_cases h1:f=m
  · subst h1
    rw [s.was] at q;rw [s.mp]
    exact Ku s.shown q
  · by_cases h2 : f = r
    · subst h2;rw [s.free] at q;cases q
    · rw [s.same f h1 h2 hf];exact q
def Kn (J:Qg) (c30:AV→AV→H→(H→Prop)→Prop) (k:Int→H→Prop):(AV × AV × AV × Unit→List Dfr→H→Prop)→AV × AV × AV × Unit→List Dfr→H→Prop:=fun r52 v49 d50 h51=>
VV v49.2.2.1 h51 fun v53 h54=>
asTup v53 fun l55=>
op' (Q3 l55 0) fun v56=>
asB v56 fun b57=>
br b57 (
op' (Y6 v49.2.2.1 h54) fun v58=>
asTup v58 fun l59=>
op' (Q3 l59 1) fun v60=>
asI .i64 v60 fun x61=>
Qv v49.1 (
faK 0 v49.1 fun p62=>
faK 0 p62 fun p63=>
ldV p63 h54 fun v64=>
op' (QW ty 3 64 false v64 (AV.int .i64 x61) h54) fun v65=>
op' (Yi ty 3 v49.2.1 (AV.int .i64 x61) v65 h54) fun k66=>
Z9 k66.1 k66.2 h54 fun h67=>
r52 (v49.1,v49.2.1,v49.2.2.1,()) d50 h67)) (
Qv v49.1 (
faK 0 v49.1 fun p68=>
faK 0 p68 fun p69=>
stV p69 v49.2.1 h54 fun h70=>
Qr (gam J [(30,w30 c30)]) d50 h70 fun h71=>
k (Int.ofNat 0) h71))
theorem D6 (c30 : AV → AV → H → (H → Prop) → Prop) (k : Int → H → Prop) (self : AV × AV × AV × Unit → List Dfr → H → Prop) (p km it : AV) (h : H)
    : Kn J0 c30 k self (p,km,it,()) [] h=VV it h fun v19 h20=>Go.Am.asTup v19 fun l21=>op' (Q3 l21 0) fun v22=>asB v22 fun b23=>br b23 (
        op' (Y6 it h20) fun v24=>Go.Am.asTup v24 fun l25=>op' (Q3 l25 1) fun v26=>asI .i64 v26 fun x=>Qv p (faK 0 p fun p62=>faK 0 p62 fun p63=>ldV p63 h20 fun v64=>op' (QW ty 3 64 false v64 (AV.int .i64 x) h20) fun v65=>
          op' (Yi ty 3 km (AV.int .i64 x) v65 h20) fun k66=>Z9 k66.1 k66.2 h20 fun h67=>self (p,km,it,()) [] h67)) (Qv p (faK 0 p fun p68=>faK 0 p68 fun p69=>stV p69 km h20 fun h70=>k (Int.ofNat 0) h70)):=by
  kernel_rfl
theorem rest11_is (c30:AV→AV→H→(H→Prop)→Prop) (k:Int→H→Prop) (v:AV × Unit) (h:H):s11R J0 c30 k v [] h=Qv v.1 (faK 2 v.1 fun p36=>stV p36 AV.nils h fun h37=>Qv v.1 (faK 6 v.1 fun p38=>stV p38 (AV.bool false) h37 fun h39=>Qv v.1 (faK 5 v.1 fun p40=>stV p40 (AV.bool false) h39 fun h41=>
      Qw (.smap []) h41 fun n42 h43=>Qv v.1 (faK 0 v.1 fun p44=>faK 1 p44 fun p45=>ldV p45 h43 fun v46=>YY v46 h43 fun v47 h48=>J0.lp (Kn J0 c30 k) (v.1,(AV.map n42),v47,()) [] h48)))):=by
  kernel_rfl
theorem kd3:(ty 3).kd=.int .i64:=by kernel_rfl
theorem row_deader {N:Nat} {h1 h2:H} (d:Deader N h1 h2) {i:Nat} {k1 k1':Bool→Nat→List AV→Prop} {k2 k2':Nat→Nat→Bool→Str→Prop} (q:ZN (h2.get i) k1 k2) (g1:∀ m t cs,h2.get i=.cells m t cs→k1 m t cs→k1' m t cs) (g2:∀ t f g s,h2.get i=.bytes t f g s→k2 t f g s→k2' t f g s):ZN (h1.get i) k1' k2':=by
  rw [Q9] at q
  have e:h2.get i=h1.get i:=by
    rcases d.any i with e | e | ⟨es,es2,e1,e2,_⟩
    · exact e
    · rcases q with ⟨_,_,_,q,_⟩ | ⟨_,_,_,_,q,_⟩ <;> (rw [e] at q;cases q)
    · rcases q with ⟨_,_,_,q,_⟩ | ⟨_,_,_,_,q,_⟩ <;> (rw [e2] at q;cases q)
  rw [Q9,← e]
  rcases q with ⟨m,t,cs,q1,q2⟩ | ⟨t,f,g,s,q1,q2⟩
  · exact .inl ⟨m,t,cs,q1,g1 _ _ _ q1 q2⟩
  · exact .inr ⟨t,f,g,s,q1,g2 _ _ _ _ q1 q2⟩
theorem Nh {N:Nat} {h1 h2:H} (d:Deader N h1 h2) {i:Nat} {b:Blk} {k k':H→Prop} (q:Z9 i b h2 k) (g:∀ h1' h2',Deader N h1' h2'→k h2'→k' h1'):Z9 i b h1 k':=by
  rw [Zo] at q ⊢
  obtain ⟨h2',p2,q⟩:=q
  obtain ⟨a1,a2,n2,b2,g2⟩:=Z8 p2
  obtain ⟨h1',p1⟩:=VY (h:=h1) (i:=i) b (by have:=d.next;omega) (by have:=d.base;omega)
  obtain ⟨_,_,n1,b1,g1⟩:=Z8 p1
  refine ⟨h1',p1,g h1' h2' ⟨by rw [n2,n1,d.next],by rw [b2,b1,d.base],fun id hi=>?_,fun id hi=>?_⟩ q⟩
  · rw [g2, g1]; split
    · rfl
    · exact d.low id hi
  · rw [g2, g1]; split
    · exact .inl rfl
    · exact d.high id hi
theorem stV_deader {N:Nat} {h1 h2:H} (d:Deader N h1 h2) {p x:AV} {k k':H→Prop} (q:stV p x h2 k) (g:∀ h1' h2',Deader N h1' h2'→k h2'→k' h1'):stV p x h1 k':=by
  unfold stV at q ⊢
  rw [Go.Am.asPtr_iff] at q ⊢
  obtain ⟨i,o,e,q⟩:=q
  refine ⟨i,o,e,row_deader d q (fun m t cs _ q=>?_) fun t f gg s _ q=>?_⟩
  · rw [QC, QO] at q ⊢
    obtain ⟨c,cs',e2,q⟩:=q
    exact ⟨c,cs',e2,Nh d q g⟩
  · rw [Ym] at q ⊢
    obtain ⟨kk,n,e2,q⟩:=q
    refine ⟨kk,n,e2,?_⟩
    rw [QC,QC,QC,WM,QI] at q ⊢
    obtain ⟨c1,c2,c3,z,e3,q⟩:=q
    exact ⟨c1,c2,c3,z,e3,Nh d q g⟩
theorem loop11 {c30 : AV → AV → H → (H → Prop) → Prop} {k : Int → H → Prop} {m r n f : Nat} {es0 : List (AV × AV)} {es : List (AV × AV × Nat)} {clock : Nat} {hB : H} {p p62 p63 : AV} (hp : Qv p True) (h62 : ∀ k : AV → Prop, faK 0 p k ↔ k p62) (h63 : ∀ k : AV → Prop, faK 0 p62 k ↔ k p63) (hf : f ≠ n)
    (hld:ldP p63 hB fun v=>v=.map f) (hall:∀ e∈es0,∃ x w,e.2=.int .i64 x∧QW ty 3 64 false (.map f) (.int .i64 x) hB=some w) (hnd:((es0.map (ent (.map f) hB)).map (·.1)).Nodup) (hbm:hB.base≤m) (hbn:hB.base≤n) (hnr:n < r) (hmr:m < r) :
    ∀ (c j:Nat),c < j→∀ (seen:List Nat) (h:H) (don acc:List (AV × AV)),Shows3 m r n es0 es clock acc hB h→h.get r=.miter (some m) clock seen clock→h.base=hB.base→h.next=r+1→(rest seen es).length=c →
    (don++(rest seen es).map fun e=>(e.1,e.2.1)).Perm es0→acc.Perm (don.map (ent (.map f) hB)) →
    (∀ h2 acc,acc.Perm (es0.map (ent (.map f) hB))→h2.get m=.smap es0→h2.get r=.dead→h2.get n=.smap acc→(∀ id,id≠m→id≠r→id≠n→h2.get id=hB.get id)→h2.next=r+1→h2.base=hB.base→stV p63 (.map n) h2 fun h=>k (Int.ofNat 0) h) →
    VM (Kn J0 c30 k) j (p,.map n,.ptr r 0,()) [] h:=by
  have okn:∀ q:Prop,q→Qv p q:=fun q hq=>okNil_mono (fun _=>hq) hp
  intro c
  induction c with
  | zero =>
    intro j hj seen h don acc s hit hb hn hc hperm hacc hk
    obtain ⟨j,rfl⟩:∃ j',j=j'+1:=⟨j - 1,by omega⟩
    show Kn J0 c30 k (VM (Kn J0 c30 k) j) _ [] h
    rw [D6]
    have hnil:rest seen es=[]:=List.length_eq_zero_iff.1 hc
    have it:Iter m r es0 es clock seen h:=⟨s.mp,hit,s.shown⟩
    refine it.next (fun e he hs=>?_) fun _=>?_
    · have : e ∈ rest seen es := by unfold rest; rw [List.mem_filter]; exact ⟨he, by simpa using hs⟩
      rw [hnil] at this;cases this
    · obtain ⟨h1, p1⟩ := VY (h := h) (i := m) (.smap es0) (by omega) (by omega)
      obtain ⟨_,_,n1,b1,g1⟩:=Z8 p1
      obtain ⟨h2,p2⟩:=VY (h:=h1) (i:=r) .dead (by omega) (by omega)
      obtain ⟨_,_,n2,b2,g2⟩:=Z8 p2
      refine ⟨h1,h2,p1,p2,?_⟩
      rw [Go.Am.asTup_iff]
      refine ⟨_,rfl,?_⟩
      show Qv p (faK 0 p fun p68=>faK 0 p68 fun p69=>stV p69 (.map n) h2 fun h70=>k (Int.ofNat 0) h70)
      refine okn _ ?_
      rw [h62,h63]
      rw [hnil,List.map_nil,List.append_nil] at hperm
      have hmn:=s.mn
      exact hk h2 acc (hacc.trans (hperm.map _)) (by rw [g2,if_neg (by omega),g1,if_pos rfl]) (by rw [g2,if_pos rfl]) (by rw [g2,if_neg (by omega),g1,if_neg (by omega)];exact s.kept)
        (fun id i1 i2 i3=>by rw [g2,if_neg i2,g1,if_neg i1];exact s.same id i1 i2 i3) (by omega) (by omega)
  | succ c ih =>
    intro j hj seen h don acc s hit hb hn hc hperm hacc hk
    obtain ⟨j,rfl⟩:∃ j',j=j'+1:=⟨j - 1,by omega⟩
    show Kn J0 c30 k (VM (Kn J0 c30 k) j) _ [] h
    rw [D6]
    have it:Iter m r es0 es clock seen h:=⟨s.mp,hit,s.shown⟩
    refine it.next (fun e he hs=>?_) fun hall'=>?_
    · obtain ⟨h1, p1⟩ := VY (h := h) (i := r) (.miter (some m) clock (seen ++ [e.2.2]) clock) (by omega) (by omega)
      obtain ⟨_,_,n1,b1,g1⟩:=Z8 p1
      refine ⟨h1,p1,?_⟩
      have hpe:=Dh s.shown.stamps he hs
      have hmn:=s.mn
      have s1:Shows3 m r n es0 es clock acc hB h1:=⟨s.was,s.free,s.new,s.mn,by rw [g1,if_neg (by omega)];exact s.mp,by rw [g1,if_neg (by omega)];exact s.kept,s.shown,fun id i1 i2 i3=>by rw [g1,if_neg i2];exact s.same id i1 i2 i3⟩
      have he0:(e.1,e.2.1)∈es0:=s.shown.perm.mem_iff.1 (List.mem_map.2 ⟨e,he,rfl⟩)
      obtain ⟨x,w,hx,hw⟩:=hall _ he0
      have hx:e.2.1=.int .i64 x:=hx
      rw [Go.Am.asTup_iff]
      refine ⟨_,rfl,?_⟩
      show op' (Y6 (.ptr r 0) h1) _
      rw [QO]
      refine ⟨_,(it.step p1).entry he,?_⟩
      rw [Go.Am.asTup_iff]
      refine ⟨_,rfl,?_⟩
      show asI .i64 e.2.1 _
      rw [QI]
      refine ⟨x,hx,okn _ ?_⟩
      rw [h62,h63]
      obtain ⟨v64,hv1,hv2⟩:=Go.Am.ldV_eq (QeT (s1.row hld))
      rw [hv1];subst hv2
      rw [QO]
      refine ⟨w,s1.look hf hw,?_⟩
      have hperm2:((don++[(e.1,e.2.1)])++(rest (seen++[e.2.2]) es).map fun e=>(e.1,e.2.1)).Perm es0:=by
        refine .trans ?_ hperm
        rw [List.append_assoc]
        exact .append_left don (by simpa using (hpe.map fun e=>(e.1,e.2.1)).symm)
      have hent:ent (.map f) hB (e.1,e.2.1)=(.int .i64 x,w):=by unfold ent;rw [hx,hw];rfl
      have hnew:AV.int .i64 x ∉ acc.map (·.1):=by
        rw [(hacc.map (·.1)).mem_iff]
        have h1:=((hperm2.map (ent (.map f) hB)).map (·.1)).nodup_iff.2 hnd
        rw [List.map_append,List.map_append,List.map_append,List.map_append,List.map_cons,List.map_cons,hent,List.append_assoc,List.nodup_append] at h1
        intro hin
        exact h1.2.2 _ hin _ (by simp) rfl
      have hints:∀ q∈acc,Qe0 q:=by
        intro q hq
        obtain ⟨e',he',rfl⟩:=List.mem_map.1 (hacc.mem_iff.1 hq)
        obtain ⟨x',w',hx',_⟩:=hall e' (hperm.mem_iff.1 (List.mem_append_left _ he'))
        exact ⟨x',hx'⟩
      have hfind:=NK hints hnew
      have hblk:Yi ty 3 (.map n) (.int .i64 x) w h1=some (n,.smap (VB (.int .i64 x,w) acc)):=by
        unfold Yi
        simp only [s1.kept,kd3,Kd.scalar,hfind]
      rw [hblk,QO]
      refine ⟨_,rfl,?_⟩
      show Z9 n (.smap (VB (.int .i64 x,w) acc)) h1 _
      rw [Zo]
      obtain ⟨h2,p2⟩:=VY (h:=h1) (i:=n) (.smap (VB (.int .i64 x,w) acc)) (by omega) (by omega)
      obtain ⟨_,_,n2,b2,g2⟩:=Z8 p2
      refine ⟨h2,p2,?_⟩
      have s2:Shows3 m r n es0 es clock (VB (.int .i64 x,w) acc) hB h2:=⟨s.was,s.free,s.new,s.mn,by rw [g2,if_neg (by omega)];exact s1.mp,by rw [g2,if_pos rfl],s.shown,fun id i1 i2 i3=>by rw [g2,if_neg i3];exact s1.same id i1 i2 i3⟩
      refine ih j (by omega) (seen++[e.2.2]) h2 (don++[(e.1,e.2.1)]) _ s2 (by rw [g2,if_neg (by omega),g1,if_pos rfl]) (by omega) (by omega) (by have:=hpe.length_eq;simp at this;omega) hperm2 ?_ hk
      rw [List.map_append,List.map_cons,List.map_nil,hent]
      exact (Wu _ _).trans ((hacc.cons _).trans (List.perm_append_comm (l₁:=[_])))
    · rw [Qbq hall'] at hc;cases hc
def mapId (v:AV) (k:Nat→Prop):Prop :=
  match v with
  | .map f=>k f
  | _=>False
def J9 (N:Nat) (k:Int→H→Prop) (v:AV × Unit) (d:List Dfr) (h:H):Prop:=QeL d (
  Qv v.1 (faK 2 v.1 fun p36 => stV p36 AV.nils h fun h37 => Qv v.1 (faK 6 v.1 fun p38 => stV p38 (AV.bool false) h37 fun h39 => Qv v.1 (faK 5 v.1 fun p40 => stV p40 (AV.bool false) h39 fun h41 =>
    ck (Nat.ble N h41.next) (ck (Nat.ble h41.base h41.next) (Qw (.smap []) h41 fun n42 h43=>Qv v.1 (Go.Am.asPtr v.1 fun _ _=>faK 0 v.1 fun p44=>faK 1 p44 fun p45=>ldV p45 h43 fun v46=>smC v46 h43 fun m es=>
      ck (Nat.ble h43.base m) (ck (Nat.ble es.length 1000000) (ck (Nat.blt m n42) (faK 0 p44 fun p63=>ldV p63 h43 fun v64=>mapId v64 fun f=>ck (Nat.blt f n42) (
        QdB (.map f) h43 es [] fun kept=>Z9 n42 (.smap kept) h43 fun ha=>Qw .dead ha fun _ hb=>stV p63 (.map n42) hb fun hc=>k (Int.ofNat 0) hc)))))))))))
theorem Kk (off i o:Nat) (k:AV→Prop):faK off (.ptr i o) k=k (.ptr i (Nat.add o off)):=by
  show fN (Nat.add o off) (fun o=>k (.ptr i o))=_;rw [QX]
theorem rest11_imp {c30 : AV → AV → H → (H → Prop) → Prop} {N : Nat} {k : Int → H → Prop} {v : AV × Unit} {d : List Dfr} {h : H} (q : J9 N k v d h) : s11R J0 c30 (fun r h1 => ∃ h2, Deader N h1 h2 ∧ k r h2) v d h := by
  unfold J9 QeL at q
  split at q
  rotate_left
  · exact q.elim
  rw [rest11_is]
  refine Go.Am.okNil_mono (fun q=>?_) q
  refine Go.Am.faK_mono (fun p36 q=>?_) q
  refine Go.Am.stV_mono (fun h37 q=>?_) q
  refine Go.Am.okNil_mono (fun q=>?_) q
  refine Go.Am.faK_mono (fun p38 q=>?_) q
  refine Go.Am.stV_mono (fun h39 q=>?_) q
  refine Go.Am.okNil_mono (fun q=>?_) q
  refine Go.Am.faK_mono (fun p40 q=>?_) q
  refine Go.Am.stV_mono (fun h41 q=>?_) q
  rw [QC,QC,Qh,Qh] at q
  obtain ⟨hN,hwf,q⟩:=q
  rw [Zh] at q ⊢
  obtain ⟨n42,h43,p43,q⟩:=q
  refine ⟨n42,h43,p43,?_⟩
  obtain ⟨en,nn,bb,wf43,g30⟩:=H.push_some p43 ⟨hwf⟩
  have hok:Qv v.1 True:=Go.Am.okNil_mono (fun _=>trivial) q
  refine Go.Am.okNil_mono (fun q=>?_) q
  rw [Go.Am.asPtr_iff] at q
  obtain ⟨i,o,ev,q⟩:=q
  rw [ev,Kk,Kk] at q
  rw [ev,Kk,Kk]
  refine Go.Am.ldV_mono (fun v46 q=>?_) q
  obtain ⟨m,es,rfl,hg,q⟩:=smC_imp q
  rw [QC,QC,QC,Qh,Qh,QH] at q
  obtain ⟨hbm,hlen,hmn,q⟩:=q
  rw [Kk] at q
  obtain ⟨v64,hv64,q⟩:=Go.Am.ldV_eq q
  unfold mapId at q
  split at q
  rotate_left
  · exact q.elim
  rename_i f
  rw [QC,QH] at q
  obtain ⟨hfn,q⟩:=q
  obtain ⟨kept,q,hall,hperm,hnd⟩:=DO q (by simp)
  rw [List.nil_append] at hperm hnd
  rw [Zo] at q
  obtain ⟨ha,pa,q⟩:=q
  obtain ⟨_,hbn,na,ba,ga⟩:=Z8 pa
  rw [Zh] at q
  obtain ⟨rr,hb,pb,q⟩:=q
  obtain ⟨er,nb,bb2,_,gb⟩:=H.push_some pb ⟨by rw [na,ba];exact wf43.low⟩
  unfold YY
  simp only [hg]
  intro es' clock hs
  obtain ⟨hc,pc⟩:=VY (h:=h43) (i:=m) (.amap es' clock) (by omega) hbm
  obtain ⟨_,_,nc,bc,gc⟩:=Z8 pc
  obtain ⟨hd,pd⟩:=Qda hc (.miter (some m) clock [] clock)
  obtain ⟨_,nd,bd,_,gd⟩:=H.push_some pd ⟨by rw [nc,bc];exact wf43.low⟩
  simp only [pc,pd]
  rw [J0.lp_ok]
  have hnx:hc.next=h43.next:=nc
  refine loop11 (es0:=es) (es:=es') (clock:=clock) (hB:=h43) (f:=f) (m:=m) (n:=n42) (p62:=.ptr i (Nat.add o 0)) (p63:=.ptr i (Nat.add (Nat.add o 0) 0)) (ev ▸ hok) (fun k=>by rw [Kk]) (fun k=>by rw [Kk]) (by omega)
    (show ldV (.ptr i (Nat.add (Nat.add o 0) 0)) h43 _ by rw [hv64]) hall hnd hbm (by omega) (by omega) (by omega) es'.length fuel ?_ [] hd [] [] ⟨hg,?_,?_,by omega,?_,?_,hs,fun id i1 i2 i3=>?_⟩ ?_ (by omega) (by omega) (by rw [KM]) ?_ (by simp) ?_
  · have:=hs.length;unfold fuel;omega
  · rw [hnx];exact H.get_of_le (Nat.le_refl _)
  · rw [g30,if_pos en]
  · rw [gd,if_neg (by omega),gc,if_pos rfl]
  · rw [gd,if_neg (by omega),gc,if_neg (by omega),g30,if_pos en]
  · rw [gd,if_neg i2,gc,if_neg i1]
  · rw [gd,if_pos rfl]
  · rw [KM];simpa using hs.perm
  · intro h2 acc hacc hm hr hn hsame hnext hbase
    refine stV_deader (N:=N) (h2:=hb) ⟨by omega,by omega,fun id hi=>?_,fun id hi=>?_⟩ q fun h1' h2' d q=>⟨h2',d,q⟩
    · rw [gb, if_neg (by omega), ga, if_neg (by omega)]
      by_cases i1:id=m
      · subst i1;rw [hm,hg]
      · rw [hsame id i1 (by omega) (by omega)]
    · by_cases i1 : id = n42
      · subst i1
        refine .inr (.inr ⟨acc,kept,hn,?_,hacc.trans hperm.symm⟩)
        rw [gb,if_neg (by omega),ga,if_pos rfl]
      · by_cases i2 : id = hc.next
        · subst i2;refine .inl ?_;rw [gb,if_pos (by omega),hr]
        · refine .inl ?_
          rw [gb,if_neg (by omega),ga,if_neg i1]
          by_cases i3:id=m
          · subst i3;rw [hm,hg]
          · rw [hsame id i3 i2 i1]
theorem up30_of {a b:AV} {h:H} {k k':H→Prop} (hk:∀ h,k h→k' h):s30 a b h k→Qej a b h k':=fun q=>⟨k,q,hk⟩
theorem s11H_mono {R R':AV × Unit→List Dfr→H→Prop} (hR:∀ v d h,R v d h→R' v d h) {k k':Int→H→Prop} (hk:∀ r h,k r h→k' r h) {a0:AV} {a1 a2:Int} {h:H}:Qd6 J0 s30 R a0 a1 a2 h k→Qd6 J0 Qej R' a0 a1 a2 h k':=by
  unfold Qd6
  repeat' with_reducible first
    | exact hR _ _ _
    | exact hk _ _
    | refine Go.Am.nilB_mono fun _=>?_
    | refine jn_mono (fun _ _=>?_) fun _ _ _=>?_
    | refine jd_mono (fun _ _ _=>?_) fun _ _ _=>?_
    | refine pickB_mono fun _=>?_
    | refine UC ?_ ?_
    | refine fB_mono fun _=>?_
    | refine fI_mono fun _=>?_
    | refine Go.Am.okNil_mono ?_
    | refine faK_mono fun _=>?_
    | refine Go.Am.ldV_mono fun _=>?_
    | refine Go.Am.ldN_mono fun _=>?_
    | refine lenK_mono fun _=>?_
    | refine lp_mono fun _ _ _ _ _ _=>?_
    | refine Jq fun _=>?_
    | refine ixK_mono fun _=>?_
    | refine slK_mono fun _=>?_
    | refine pushK_mono fun _ _=>?_
    | refine Go.Am.stN_mono fun _=>?_
    | refine Go.Am.stV_mono fun _=>?_
    | refine up30_of fun _=>?_
    | refine VJ fun _=>?_
    | refine leave_gam fun _=>?_
    | refine Go.Am.ldI_mono fun _=>?_
    | refine ldB_mono fun _=>?_
    | refine ldS_mono fun _=>?_
    | refine Wj fun _=>?_
    | refine Jp fun _=>?_
    | refine asAgg_mono fun _=>?_
    | refine asTup_mono fun _=>?_
    | refine Vw fun _=>?_
    | refine pickI_mono fun _=>?_
    | refine pickS_mono fun _=>?_
    | refine pickV_mono fun _=>?_
    | refine QdK fun _=>?_
    | refine WD fun _=>?_
    | refine ixsK_mono fun _=>?_
    | refine obK_mono fun _=>?_
    | refine V7 fun _=>?_
    | refine ZU ?_
    | refine jb_mono (fun _ _=>?_) fun _ _ _=>?_
    | apply_assumption
def Qan (a0:AV) (a1 a2:Int) (h:H) (k:Int→H→Prop):Prop:=Qd6 J0 s30 (J9 h.next k) a0 a1 a2 h k
theorem s11'_imp {a0:AV} {a1 a2:Int} {h:H} {k:Int→H→Prop} (q:Qan a0 a1 a2 h k):s11G J0 Qej a0 a1 a2 h fun r h1=>∃ h2,Deader h.next h1 h2∧k r h2:=by
  rw [s11_hole]
  exact s11H_mono (fun v d h' q=>rest11_imp q) (fun r h' q=>⟨h',.refl _ _,q⟩) q
def g11':Fun:=w11 Qan
theorem g11'_ok:Qp Tryd.prog 11 g11' :=
  (Qz QF QG (Qu (J:=J0) (Qb up30_ok (Qn Qo))) Tryd.func11 (fun args w=>by simp)).deader fun xs h k _ e0=>by
    obtain ⟨a0,xs0,rfl,e1⟩:=Qf e0
    obtain ⟨a1,xs1,rfl,e2⟩:=Qf e1
    obtain ⟨a2,xs2,rfl,e3⟩:=Qf e2
    obtain ⟨rfl,e4⟩:=Qj e3
    obtain ⟨a1,rfl,e5⟩:=QI.1 e4
    obtain ⟨a2,rfl,e6⟩:=QI.1 e5
    exact (s11_eq J0 Qej a0 a1 a2 h _).mpr (s11'_imp e6)
end Go.Proofs.YtbcfpeelkaoljaaDoor
namespace Go.Proofs.YtbcfpeelkaoljaaDoor
open Go Go.Am
set_option maxRecDepth 100000
set_option linter.all false
def Qbk (J:Qg) (a0:AV) (a1:AV) (h:H) (k:Bool→H→Prop):Prop :=
Zi a0 fun x1=>
Zi a1 fun x2=>
fB (Bool.not (eqI (Int.ofNat x1) (Int.ofNat x2))) fun b3=>
br b3 (
k false h) (
J.lp (α:=AV × AV × AV × Unit) (fun r7 v4 d5 h6=>
Zi v4.1 fun x8=>
asI .i64 v4.2.2.1 fun x9=>
fB (ltI x9 (Int.ofNat x8)) fun b10=>
br b10 (
ixK 3 v4.1 v4.2.2.1 fun p11=>
ldN 3 p11 h6 fun l12=>
ixK 3 v4.2.1 v4.2.2.1 fun p13=>
ldN 3 p13 h6 fun l14=>
obK (UU ty .neq 47 false (AV.agg l12) (AV.agg l14)) fun b15=>
br b15 (
Qr (gam J []) d5 h6 fun h16=>
k false h16) (
asI .i64 v4.2.2.1 fun x17=>
fI (Qc .i64 (Int.add x17 (Int.ofNat 1))) fun x18=>
r7 (v4.1,v4.2.1,(AV.int .i64 x18),()) d5 h6)) (
Qr (gam J []) d5 h6 fun h19=>
k true h19)) (a0,a1,(AV.int .i64 (Int.ofNat 0)),()) [] h)
def s31:AV→AV→H→(Bool→H→Prop)→Prop:=Qbk J0
def w31 (c:AV→AV→H→(Bool→H→Prop)→Prop):Fun:=fun xs h k=>arg xs fun a0 xs=>arg xs fun a1 xs=>QV xs <| c a0 a1 h fun r0 h=>k (.bool r0) h
theorem s31_eq (J:Qg) (a0:AV) (a1:AV) (h:H) (k:AV→H→Prop):Zk ty (gam J []) Tryd.f31 [a0,a1] h k=Qbk J  a0 a1 h (fun r0 h=>k (.bool r0) h):=by kernel_rfl
def g31:Fun:=w31 s31
theorem g31_ok:Qp Tryd.prog 31 g31:=(Qz QF QG (Qu (J:=J0) (Qn Qo)) Tryd.func31 (fun args w=>by simp)).imp fun xs h k e0=>by
  obtain ⟨a0,xs0,rfl,e1⟩:=Qf e0
  obtain ⟨a1,xs1,rfl,e2⟩:=Qf e1
  obtain ⟨rfl,e3⟩:=Qj e2
  exact (s31_eq J0  a0 a1 h k).mpr e3
def Qcl (J:Qg) (c31:AV→AV→H→(Bool→H→Prop)→Prop) (a0:AV) (a1:AV) (h:H) (k:Bool→H→Prop):Prop :=
Zi a0 fun x1=>
Zi a1 fun x2=>
fB (Bool.not (eqI (Int.ofNat x1) (Int.ofNat x2))) fun b3=>
br b3 (
k false h) (
J.lp (α:=AV × AV × AV × Unit) (fun r7 v4 d5 h6=>
Zi v4.1 fun x8=>
asI .i64 v4.2.2.1 fun x9=>
fB (ltI x9 (Int.ofNat x8)) fun b10=>
br b10 (
ixK 2 v4.1 v4.2.2.1 fun p11=>
faK 0 p11 fun p12=>
ldI .i64 p12 h6 fun x13=>
ixK 2 v4.2.1 v4.2.2.1 fun p14=>
faK 0 p14 fun p15=>
ldI .i64 p15 h6 fun x16=>
fB (Bool.not (eqI x13 x16)) fun b17=>
J.jn (fun v18 h19=>
J.jn (fun v21 h22=>
J.jn (fun v24 h25=>
J.jn (fun v28 h29=>
J.jb (fun b32 v33=>
J.jn (fun v36 h37=>
J.jn (fun v39 h40=>
J.jn (fun v42 h43=>
J.jn (fun v46 h47=>
J.jb (fun b50 v51=>
J.jn (fun v54 h55=>
J.jn (fun v59 h60=>
QY (AV.bool b17) (AV.bool true) v59 fun b64=>
br b64 (
Qr (gam J [(31,w31 c31)]) d5 h60 fun h65=>
k false h65) (
asI .i64 v4.2.2.1 fun x66=>
fI (Qc .i64 (Int.add x66 (Int.ofNat 1))) fun x67=>
r7 (v4.1,v4.2.1,(AV.int .i64 x67),()) d5 h60)) fun j61=>
br b17 (
j61 Qa h55) (
asB v54 fun b62=>
fB (Bool.not b62) fun b63=>
j61 (AV.bool b63) h55)) fun j56=>
br b17 (
j56 Qa h47) (
c31 v33 v51 h47 fun b58 h57=>
j56 (AV.bool b58) h57)) fun j52=>
br b17 (
j52 false Qa) (
ldV v46 h47 fun v53=>
j52 true v53)) fun j48=>
br b17 (
j48 Qa h43) (
faK 1 v42 fun p49=>
j48 p49 h43)) fun j44=>
br b17 (
j44 Qa h40) (
ixK 2 v36 v39 fun p45=>
j44 p45 h40)) fun j41=>
br b17 (
j41 Qa h37) (
j41 v4.2.2.1 h37)) fun j38=>
br b17 (
j38 Qa h29) (
j38 v4.2.1 h29)) fun j34=>
br b17 (
j34 false Qa) (
ldV v28 h29 fun v35=>
j34 true v35)) fun j30=>
br b17 (
j30 Qa h25) (
faK 1 v24 fun p31=>
j30 p31 h25)) fun j26=>
br b17 (
j26 Qa h22) (
ixK 2 v18 v21 fun p27=>
j26 p27 h22)) fun j23=>
br b17 (
j23 Qa h19) (
j23 v4.2.2.1 h19)) fun j20=>
br b17 (
j20 Qa h6) (
j20 v4.1 h6)) (
Qr (gam J [(31,w31 c31)]) d5 h6 fun h68=>
k true h68)) (a0,a1,(AV.int .i64 (Int.ofNat 0)),()) [] h)
def s13:AV→AV→H→(Bool→H→Prop)→Prop:=Qcl J0 s31
def w13 (c:AV→AV→H→(Bool→H→Prop)→Prop):Fun:=fun xs h k=>arg xs fun a0 xs=>arg xs fun a1 xs=>QV xs <| c a0 a1 h fun r0 h=>k (.bool r0) h
theorem s13_eq (J:Qg) (c31:AV→AV→H→(Bool→H→Prop)→Prop) (a0:AV) (a1:AV) (h:H) (k:AV→H→Prop):Zk ty (gam J [(31,w31 c31)]) Tryd.f13 [a0,a1] h k=Qcl J c31 a0 a1 h (fun r0 h=>k (.bool r0) h):=by kernel_rfl
def g13:Fun:=w13 s13
theorem Qfn:Qp Tryd.prog 13 g13:=(Qz QF QG (Qu (J:=J0) (Qb g31_ok (Qn Qo))) Tryd.func13 (fun args w=>by simp)).imp fun xs h k e0=>by
  obtain ⟨a0,xs0,rfl,e1⟩:=Qf e0
  obtain ⟨a1,xs1,rfl,e2⟩:=Qf e1
  obtain ⟨rfl,e3⟩:=Qj e2
  exact (s13_eq J0 s31 a0 a1 h k).mpr e3
def QeD (J:Qg) (c13:AV→AV→H→(Bool→H→Prop)→Prop) (a0:AV) (a1:AV) (h:H) (k:Bool→H→Prop):Prop :=
Zi a1 fun x1=>
Zi a0 fun x2=>
fB (Bool.not (ltI (Int.ofNat x2) (Int.ofNat x1))) fun b3=>
J.jn (fun v4 h5=>
J.jn (fun v7 h8=>
J.jn (fun v10 h11=>
J.jn (fun v14 h15=>
J.jn (fun v18 h19=>
J.jn (fun v21 h22=>
QY (AV.bool b3) v21 (AV.bool false) fun b26=>
k b26 h22) fun j23=>
br b3 (
c13 v14 v18 h19 fun b25 h24=>
j23 (AV.bool b25) h24) (
j23 Qa h19)) fun j20=>
br b3 (
j20 a1 h15) (
j20 Qa h15)) fun j16=>
br b3 (
slK 2 v4 none (some v10) fun v17=>
j16 v17 h11) (
j16 Qa h11)) fun j12=>
br b3 (
Zi v7 fun x13=>
j12 (AV.int .i64 (Int.ofNat x13)) h8) (
j12 Qa h8)) fun j9=>
br b3 (
j9 a1 h5) (
j9 Qa h5)) fun j6=>
br b3 (
j6 a0 h) (
j6 Qa h)
def s12:AV→AV→H→(Bool→H→Prop)→Prop:=QeD J0 s13
def w12 (c:AV→AV→H→(Bool→H→Prop)→Prop):Fun:=fun xs h k=>arg xs fun a0 xs=>arg xs fun a1 xs=>QV xs <| c a0 a1 h fun r0 h=>k (.bool r0) h
theorem s12_eq (J:Qg) (c13:AV→AV→H→(Bool→H→Prop)→Prop) (a0:AV) (a1:AV) (h:H) (k:AV→H→Prop):Zk ty (gam J [(13,w13 c13)]) Tryd.f12 [a0,a1] h k=QeD J c13 a0 a1 h (fun r0 h=>k (.bool r0) h):=by kernel_rfl
def g12:Fun:=w12 s12
theorem g12_ok:Qp Tryd.prog 12 g12:=(Qz QF QG (Qu (J:=J0) (Qb Qfn (Qn Qo))) Tryd.func12 (fun args w=>by simp)).imp fun xs h k e0=>by
  obtain ⟨a0,xs0,rfl,e1⟩:=Qf e0
  obtain ⟨a1,xs1,rfl,e2⟩:=Qf e1
  obtain ⟨rfl,e3⟩:=Qj e2
  exact (s12_eq J0 s13 a0 a1 h k).mpr e3
def g3:Fun:=Y9 ty (gam J0 [(4,g4),(5,g5),(6,g6),(7,g7),(8,g8),(9,g9),(10,g10),(11,g11'),(12,g12),(13,g13)]) Tryd.f3
end Go.Proofs.YtbcfpeelkaoljaaDoor
