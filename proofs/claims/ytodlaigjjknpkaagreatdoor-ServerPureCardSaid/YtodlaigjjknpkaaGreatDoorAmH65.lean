import Derived.Test.YtodlaigjjknpkaaGreatDoorAmS0
noncomputable section
namespace Go.Proofs.YtodlaigjjknpkaaGreatDoor
open Go Go.Am
set_option linter.all false
theorem YZ (p : AV × AV) : ∀ l : List (AV × AV),(UQ p l).Perm (p :: l)
  | []=>.refl _
  | q :: r => by
    unfold UQ
    split
    · exact .refl _
    · exact .trans (.cons q (YZ p r)) (.swap p q r)
theorem Nc {kd : Kd} {k : AV} : ∀ {l : List (AV × AV)},ZH kd k l = some none→k ∉ l.map (·.1)
  | [],_=>by simp
  | p :: r, h => by
    unfold ZH at h
    split at h
    · cases h
    · rename_i x h1 h2
      injection h with h; subst h
      have ih:=Nc h2
      have:=Yi h1
      rw [List.map_cons,List.mem_cons]
      rintro (e | e)
      · exact absurd (this.2 e) (by simp)
      · exact ih e
    · cases h
def smC (v : AV) (h : H) (k : Nat→List (AV × AV)→Prop) : Prop :=
  match v with
  | .map id => match h.get id with
    | .smap es=>k id es
    | _=>False
  | _=>False
theorem smC_imp {v : AV} {h : H} {k : Nat→List (AV × AV)→Prop} (e : smC v h k) : ∃ id es,v = .map id ∧ h.get id = .smap es ∧ k id es:=by
  unfold smC at e
  split at e
  · rename_i id
    split at e
    · rename_i es hg; exact ⟨id,es,rfl,hg,e⟩
    · exact e.elim
  · exact e.elim
def Qe4 (v : AV) (h : H) (es : List (AV × AV)) : List (AV × AV)→(List (AV × AV)→Prop)→Prop :=
  List.rec (motive:=fun _=>List (AV × AV)→(List (AV × AV)→Prop)→Prop) (fun acc k=>k acc) (fun e _ ih acc k=>asI .i64 e.2 fun x=>op' (Zf ty 3 132 false v (AV.int .i64 x) h) fun w=>op' (ZH (.int .i64) (AV.int .i64 x) acc) fun o=>
    match o with
    | none=>ih (UQ (AV.int .i64 x,w) acc) k
    | some _=>False) es
def ent (v : AV) (h : H) (e : AV × AV) : AV × AV:=(e.2,(Zf ty 3 132 false v e.2 h).getD .junk)
def Qe8 (p : AV × AV) : Prop:=∃ x,p.1 = .int .i64 x
theorem G2 {v : AV} {h : H} : ∀ {es acc : List (AV × AV)} {k : List (AV × AV) → Prop}, Qe4 v h es acc k → (acc.map (·.1)).Nodup →
    ∃ kept,k kept ∧ (∀ e ∈ es,∃ x w,e.2 = .int .i64 x ∧ Zf ty 3 132 false v (.int .i64 x) h = some w) ∧ kept.Perm (acc ++ es.map (ent v h)) ∧ ((acc ++ es.map (ent v h)).map (·.1)).Nodup
  | [],acc,k,q,hn=>⟨acc,q,by simp,by simp,by simpa using hn⟩
  | e :: es, acc, k, q, hn => by
    have q : asI .i64 e.2 fun x=>op' (Zf ty 3 132 false v (AV.int .i64 x) h) fun w=>op' (ZH (.int .i64) (AV.int .i64 x) acc) fun o=>
      match o with
      | none=>Qe4 v h es (UQ (AV.int .i64 x,w) acc) k
      | some _=>False:=q
    rw [QD] at q
    obtain ⟨x,hx,q⟩:=q
    rw [QF] at q
    obtain ⟨w,hw,q⟩:=q
    rw [QF] at q
    obtain ⟨o,ho,q⟩:=q
    cases o with
    | some _=>exact q.elim
    | none =>
      have hnot:=Nc ho
      have p1:=YZ (AV.int .i64 x,w) acc
      have hn1 : ((UQ (AV.int .i64 x,w) acc).map (·.1)).Nodup:=by
        rw [(p1.map (·.1)).nodup_iff,List.map_cons,List.nodup_cons]
        exact ⟨hnot,hn⟩
      obtain ⟨kept,k1,k2,k3,k4⟩:=G2 q hn1
      have he : ent v h e = (AV.int .i64 x,w):=by unfold ent; rw [hx,hw]; rfl
      have p2 : (UQ (AV.int .i64 x,w) acc ++ es.map (ent v h)).Perm (acc ++ (e :: es).map (ent v h)):=by
        rw [List.map_cons,he]
        exact (p1.append_right _).trans List.perm_middle.symm
      refine ⟨kept,k1,fun e' he'=>?_,k3.trans p2,(p2.map (·.1)).nodup_iff.1 k4⟩
      rcases List.mem_cons.1 he' with rfl | he'
      · exact ⟨x,w,hx,hw⟩
      · exact k2 e' he'
theorem X3 {x : Int} : ∀ {l : List (AV × AV)}, (∀ p ∈ l, Qe8 p) → AV.int .i64 x ∉ l.map (·.1) → ZH (.int .i64) (.int .i64 x) l = some none
  | [],_,_=>rfl
  | p :: r, hi, hn => by
    obtain ⟨y,hy⟩:=hi p List.mem_cons_self
    have ih:=X3 (x:=x) (l:=r) (fun p hp=>hi p (List.mem_cons_of_mem _ hp)) (fun h=>hn (by rw [List.map_cons]; exact List.mem_cons_of_mem _ h))
    have hk : YR (.int .i64) (.int .i64 x) p.1 = some false:=by
      have hxy : eqI x y = false:=by
        cases hc : eqI x y with
        | false=>rfl
        | true=>rw [Qc2] at hc; subst hc; exact absurd (by rw [List.map_cons,hy]; exact List.mem_cons_self) hn
      rw [hy]; unfold YR
      simp only [keq,hxy]
      rfl
    unfold ZH
    rw [hk,ih]
structure Shows3 (m r n : Nat) (es0 : List (AV × AV)) (es : List (AV × AV × Nat)) (clock : Nat) (acc : List (AV × AV)) (hB h : H) : Prop where
  was : hB.get m = .smap es0
  free : hB.get r = .dead
  new : hB.get n = .smap []
  mn : m ≠ n
  mp : h.get m = .amap es clock
  kept : h.get n = .smap acc
  shown : Z3 es0 es clock
  same : ∀ id,id ≠ m→id ≠ r→id ≠ n→h.get id = hB.get id
theorem Shows3.row {m r n : Nat} {es0 : List (AV × AV)} {es : List (AV × AV × Nat)} {clock : Nat} {acc : List (AV × AV)} {hB h : H} (s : Shows3 m r n es0 es clock acc hB h) {p : AV} {k : AV→Prop} (q : ldP p hB k) : ldP p h k:=by
  unfold ldP at q ⊢
  rw [Go.Am.asPtr_iff] at q ⊢
  obtain ⟨i,o,rfl,q⟩:=q
  refine ⟨i,o,rfl,?_⟩
  by_cases h1 : i = m
  · subst h1; rw [s.was] at q; exact q.elim
  · by_cases h2 : i = r
    · subst h2; rw [s.free] at q; exact q.elim
    · by_cases h3 : i = n
      · subst h3; rw [s.new] at q; exact q.elim
      · rw [s.same i h1 h2 h3]; exact q
theorem Shows3.look {m r n f : Nat} {es0 : List (AV × AV)} {es : List (AV × AV × Nat)} {clock : Nat} {acc : List (AV × AV)} {hB h : H} (s : Shows3 m r n es0 es clock acc hB h) (hf : f ≠ n) {T : Ty} {kt e : Nat} {ok : Bool} {i v : AV} (q : Zf T kt e ok (.map f) i hB = some v) : Zf T kt e ok (.map f) i h = some v:=by
  unfold Zf at q ⊢
  simp only at q ⊢
  by_cases h1 : f = m
  · subst h1
    rw [s.was] at q; rw [s.mp]
    exact Je s.shown q
  · by_cases h2 : f = r
    · subst h2; rw [s.free] at q; cases q
    · rw [s.same f h1 h2 hf]; exact q
def U9 (J : Qm) (c99 : AV→AV→H→(H→Prop)→Prop) (k : Int→H→Prop) : (AV × AV × AV × Unit→List Dfr→H→Prop)→AV × AV × AV × Unit→List Dfr→H→Prop:=fun r52 v49 d50 h51=>
YV v49.2.2.1 h51 fun v53 h54=>
asTup v53 fun l55=>
op' (Zd l55 0) fun v56=>
asB v56 fun b57=>
br b57 (
op' (ZV v49.2.2.1 h54) fun v58=>
asTup v58 fun l59=>
op' (Zd l59 1) fun v60=>
asI .i64 v60 fun x61=>
Za v49.1 (
faK 0 v49.1 fun p62=>
faK 0 p62 fun p63=>
ldV p63 h54 fun v64=>
op' (Zf ty 3 132 false v64 (AV.int .i64 x61) h54) fun v65=>
op' (Wm ty 3 v49.2.1 (AV.int .i64 x61) v65 h54) fun k66=>
ZL k66.1 k66.2 h54 fun h67=>
r52 (v49.1,v49.2.1,v49.2.2.1,()) d50 h67)) (
Za v49.1 (
faK 0 v49.1 fun p68=>
faK 0 p68 fun p69=>
stV p69 v49.2.1 h54 fun h70=>
Qr (gam J [(99,w99 c99)]) d50 h70 fun h71=>
k (Int.ofNat 0) h71))
theorem Nf (c99 : AV → AV → H → (H → Prop) → Prop) (k : Int → H → Prop) (self : AV × AV × AV × Unit → List Dfr → H → Prop) (p km it : AV) (h : H)
    : U9 J0 c99 k self (p,km,it,()) [] h = YV it h fun v19 h20=>Go.Am.asTup v19 fun l21=>op' (Zd l21 0) fun v22=>asB v22 fun b23=>br b23 (
        op' (ZV it h20) fun v24=>Go.Am.asTup v24 fun l25=>op' (Zd l25 1) fun v26=>asI .i64 v26 fun x=>Za p (faK 0 p fun p62=>faK 0 p62 fun p63=>ldV p63 h20 fun v64=>op' (Zf ty 3 132 false v64 (AV.int .i64 x) h20) fun v65=>
          op' (Wm ty 3 km (AV.int .i64 x) v65 h20) fun k66=>ZL k66.1 k66.2 h20 fun h67=>self (p,km,it,()) [] h67)) (Za p (faK 0 p fun p68=>faK 0 p68 fun p69=>stV p69 km h20 fun h70=>k (Int.ofNat 0) h70)):=by
  kernel_rfl
theorem rest65_is (c99 : AV→AV→H→(H→Prop)→Prop) (k : Int→H→Prop) (v : AV × Unit) (h : H) : s65R J0 c99 k v [] h = Za v.1 (faK 2 v.1 fun p36=>stV p36 AV.nils h fun h37=>Za v.1 (faK 6 v.1 fun p38=>stV p38 (AV.bool false) h37 fun h39=>Za v.1 (faK 5 v.1 fun p40=>stV p40 (AV.bool false) h39 fun h41=>
      Qs (.smap []) h41 fun n42 h43=>Za v.1 (faK 0 v.1 fun p44=>faK 1 p44 fun p45=>ldV p45 h43 fun v46=>Z9 v46 h43 fun v47 h48=>J0.lp (U9 J0 c99 k) (v.1,(AV.map n42),v47,()) [] h48)))):=by
  kernel_rfl
theorem kd3 : (ty 3).kd = .int .i64:=by kernel_rfl
theorem row_deader {N : Nat} {h1 h2 : H} (d : Deader N h1 h2) {i : Nat} {k1 k1' : Bool→Nat→List AV→Prop} {k2 k2' : Nat→Nat→Bool→Str→Prop} (q : Zp (h2.get i) k1 k2) (g1 : ∀ m t cs,h2.get i = .cells m t cs→k1 m t cs→k1' m t cs) (g2 : ∀ t f g s,h2.get i = .bytes t f g s→k2 t f g s→k2' t f g s) : Zp (h1.get i) k1' k2':=by
  rw [Q3] at q
  have e : h2.get i = h1.get i:=by
    rcases d.any i with e | e | ⟨es,es2,e1,e2,_⟩
    · exact e
    · rcases q with ⟨_,_,_,q,_⟩ | ⟨_,_,_,_,q,_⟩ <;> (rw [e] at q; cases q)
    · rcases q with ⟨_,_,_,q,_⟩ | ⟨_,_,_,_,q,_⟩ <;> (rw [e2] at q; cases q)
  rw [Q3,← e]
  rcases q with ⟨m,t,cs,q1,q2⟩ | ⟨t,f,g,s,q1,q2⟩
  · exact .inl ⟨m,t,cs,q1,g1 _ _ _ q1 q2⟩
  · exact .inr ⟨t,f,g,s,q1,g2 _ _ _ _ q1 q2⟩
theorem XF {N : Nat} {h1 h2 : H} (d : Deader N h1 h2) {i : Nat} {b : Blk} {k k' : H→Prop} (q : ZL i b h2 k) (g : ∀ h1' h2',Deader N h1' h2'→k h2'→k' h1') : ZL i b h1 k':=by
  rw [QZ] at q ⊢
  obtain ⟨h2',p2,q⟩:=q
  obtain ⟨a1,a2,n2,b2,g2⟩:=Q1 p2
  obtain ⟨h1',p1⟩:=ZB (h:=h1) (i:=i) b (by have:=d.next; omega) (by have:=d.base; omega)
  obtain ⟨_,_,n1,b1,g1⟩:=Q1 p1
  refine ⟨h1',p1,g h1' h2' ⟨by rw [n2,n1,d.next],by rw [b2,b1,d.base],fun id hi=>?_,fun id hi=>?_⟩ q⟩
  · rw [g2, g1]; split
    · rfl
    · exact d.low id hi
  · rw [g2, g1]; split
    · exact .inl rfl
    · exact d.high id hi
theorem stV_deader {N : Nat} {h1 h2 : H} (d : Deader N h1 h2) {p x : AV} {k k' : H→Prop} (q : stV p x h2 k) (g : ∀ h1' h2',Deader N h1' h2'→k h2'→k' h1') : stV p x h1 k':=by
  unfold stV at q ⊢
  rw [Go.Am.asPtr_iff] at q ⊢
  obtain ⟨i,o,e,q⟩:=q
  refine ⟨i,o,e,row_deader d q (fun m t cs _ q=>?_) fun t f gg s _ q=>?_⟩
  · rw [Qz, QF] at q ⊢
    obtain ⟨c,cs',e2,q⟩:=q
    exact ⟨c,cs',e2,XF d q g⟩
  · rw [ZT] at q ⊢
    obtain ⟨kk,n,e2,q⟩:=q
    refine ⟨kk,n,e2,?_⟩
    rw [Qz,Qz,Qz,Vp,QD] at q ⊢
    obtain ⟨c1,c2,c3,z,e3,q⟩:=q
    exact ⟨c1,c2,c3,z,e3,XF d q g⟩
theorem loop65 {c99 : AV → AV → H → (H → Prop) → Prop} {k : Int → H → Prop} {m r n f : Nat} {es0 : List (AV × AV)} {es : List (AV × AV × Nat)} {clock : Nat} {hB : H} {p p62 p63 : AV} (hp : Za p True) (h62 : ∀ k : AV → Prop, faK 0 p k ↔ k p62) (h63 : ∀ k : AV → Prop, faK 0 p62 k ↔ k p63) (hf : f ≠ n)
    (hld : ldP p63 hB fun v=>v = .map f) (hall : ∀ e ∈ es0,∃ x w,e.2 = .int .i64 x ∧ Zf ty 3 132 false (.map f) (.int .i64 x) hB = some w) (hnd : ((es0.map (ent (.map f) hB)).map (·.1)).Nodup) (hbm : hB.base ≤ m) (hbn : hB.base ≤ n) (hnr : n < r) (hmr : m < r) :
    ∀ (c j : Nat),c < j→∀ (seen : List Nat) (h : H) (don acc : List (AV × AV)),Shows3 m r n es0 es clock acc hB h→h.get r = .miter (some m) clock seen clock→h.base = hB.base→h.next = r + 1→(rest seen es).length = c →
    (don ++ (rest seen es).map fun e=>(e.1,e.2.1)).Perm es0→acc.Perm (don.map (ent (.map f) hB)) →
    (∀ h2 acc,acc.Perm (es0.map (ent (.map f) hB))→h2.get m = .smap es0→h2.get r = .dead→h2.get n = .smap acc→(∀ id,id ≠ m→id ≠ r→id ≠ n→h2.get id = hB.get id)→h2.next = r + 1→h2.base = hB.base→stV p63 (.map n) h2 fun h=>k (Int.ofNat 0) h) →
    ZW (U9 J0 c99 k) j (p,.map n,.ptr r 0,()) [] h:=by
  have okn : ∀ q : Prop,q→Za p q:=fun q hq=>okNil_mono (fun _=>hq) hp
  intro c
  induction c with
  | zero =>
    intro j hj seen h don acc s hit hb hn hc hperm hacc hk
    obtain ⟨j,rfl⟩ : ∃ j',j = j' + 1:=⟨j - 1,by omega⟩
    show U9 J0 c99 k (ZW (U9 J0 c99 k) j) _ [] h
    rw [Nf]
    have hnil : rest seen es = []:=List.length_eq_zero_iff.1 hc
    have it : Iter m r es0 es clock seen h:=⟨s.mp,hit,s.shown⟩
    refine it.next (fun e he hs=>?_) fun _=>?_
    · have : e ∈ rest seen es := by unfold rest; rw [List.mem_filter]; exact ⟨he, by simpa using hs⟩
      rw [hnil] at this; cases this
    · obtain ⟨h1, p1⟩ := ZB (h := h) (i := m) (.smap es0) (by omega) (by omega)
      obtain ⟨_,_,n1,b1,g1⟩:=Q1 p1
      obtain ⟨h2,p2⟩:=ZB (h:=h1) (i:=r) .dead (by omega) (by omega)
      obtain ⟨_,_,n2,b2,g2⟩:=Q1 p2
      refine ⟨h1,h2,p1,p2,?_⟩
      rw [Go.Am.asTup_iff]
      refine ⟨_,rfl,?_⟩
      show Za p (faK 0 p fun p68=>faK 0 p68 fun p69=>stV p69 (.map n) h2 fun h70=>k (Int.ofNat 0) h70)
      refine okn _ ?_
      rw [h62,h63]
      rw [hnil,List.map_nil,List.append_nil] at hperm
      have hmn:=s.mn
      exact hk h2 acc (hacc.trans (hperm.map _)) (by rw [g2,if_neg (by omega),g1,if_pos rfl]) (by rw [g2,if_pos rfl]) (by rw [g2,if_neg (by omega),g1,if_neg (by omega)]; exact s.kept)
        (fun id i1 i2 i3=>by rw [g2,if_neg i2,g1,if_neg i1]; exact s.same id i1 i2 i3) (by omega) (by omega)
  | succ c ih =>
    intro j hj seen h don acc s hit hb hn hc hperm hacc hk
    obtain ⟨j,rfl⟩ : ∃ j',j = j' + 1:=⟨j - 1,by omega⟩
    show U9 J0 c99 k (ZW (U9 J0 c99 k) j) _ [] h
    rw [Nf]
    have it : Iter m r es0 es clock seen h:=⟨s.mp,hit,s.shown⟩
    refine it.next (fun e he hs=>?_) fun hall'=>?_
    · obtain ⟨h1, p1⟩ := ZB (h := h) (i := r) (.miter (some m) clock (seen ++ [e.2.2]) clock) (by omega) (by omega)
      obtain ⟨_,_,n1,b1,g1⟩:=Q1 p1
      refine ⟨h1,p1,?_⟩
      have hpe:=J2 s.shown.stamps he hs
      have hmn:=s.mn
      have s1 : Shows3 m r n es0 es clock acc hB h1:=⟨s.was,s.free,s.new,s.mn,by rw [g1,if_neg (by omega)]; exact s.mp,by rw [g1,if_neg (by omega)]; exact s.kept,s.shown,fun id i1 i2 i3=>by rw [g1,if_neg i2]; exact s.same id i1 i2 i3⟩
      have he0 : (e.1,e.2.1) ∈ es0:=s.shown.perm.mem_iff.1 (List.mem_map.2 ⟨e,he,rfl⟩)
      obtain ⟨x,w,hx,hw⟩:=hall _ he0
      have hx : e.2.1 = .int .i64 x:=hx
      rw [Go.Am.asTup_iff]
      refine ⟨_,rfl,?_⟩
      show op' (ZV (.ptr r 0) h1) _
      rw [QF]
      refine ⟨_,(it.step p1).entry he,?_⟩
      rw [Go.Am.asTup_iff]
      refine ⟨_,rfl,?_⟩
      show asI .i64 e.2.1 _
      rw [QD]
      refine ⟨x,hx,okn _ ?_⟩
      rw [h62,h63]
      obtain ⟨v64,hv1,hv2⟩:=Go.Am.ldV_eq (ND (s1.row hld))
      rw [hv1]; subst hv2
      rw [QF]
      refine ⟨w,s1.look hf hw,?_⟩
      have hperm2 : ((don ++ [(e.1,e.2.1)]) ++ (rest (seen ++ [e.2.2]) es).map fun e=>(e.1,e.2.1)).Perm es0:=by
        refine .trans ?_ hperm
        rw [List.append_assoc]
        exact .append_left don (by simpa using (hpe.map fun e=>(e.1,e.2.1)).symm)
      have hent : ent (.map f) hB (e.1,e.2.1) = (.int .i64 x,w):=by unfold ent; rw [hx,hw]; rfl
      have hnew : AV.int .i64 x ∉ acc.map (·.1):=by
        rw [(hacc.map (·.1)).mem_iff]
        have h1:=((hperm2.map (ent (.map f) hB)).map (·.1)).nodup_iff.2 hnd
        rw [List.map_append,List.map_append,List.map_append,List.map_append,List.map_cons,List.map_cons,hent,List.append_assoc,List.nodup_append] at h1
        intro hin
        exact h1.2.2 _ hin _ (by simp) rfl
      have hints : ∀ q ∈ acc,Qe8 q:=by
        intro q hq
        obtain ⟨e',he',rfl⟩:=List.mem_map.1 (hacc.mem_iff.1 hq)
        obtain ⟨x',w',hx',_⟩:=hall e' (hperm.mem_iff.1 (List.mem_append_left _ he'))
        exact ⟨x',hx'⟩
      have hfind:=X3 hints hnew
      have hblk : Wm ty 3 (.map n) (.int .i64 x) w h1 = some (n,.smap (UQ (.int .i64 x,w) acc)):=by
        unfold Wm
        simp only [s1.kept,kd3,Kd.scalar,hfind]
      rw [hblk,QF]
      refine ⟨_,rfl,?_⟩
      show ZL n (.smap (UQ (.int .i64 x,w) acc)) h1 _
      rw [QZ]
      obtain ⟨h2,p2⟩:=ZB (h:=h1) (i:=n) (.smap (UQ (.int .i64 x,w) acc)) (by omega) (by omega)
      obtain ⟨_,_,n2,b2,g2⟩:=Q1 p2
      refine ⟨h2,p2,?_⟩
      have s2 : Shows3 m r n es0 es clock (UQ (.int .i64 x,w) acc) hB h2:=⟨s.was,s.free,s.new,s.mn,by rw [g2,if_neg (by omega)]; exact s1.mp,by rw [g2,if_pos rfl],s.shown,fun id i1 i2 i3=>by rw [g2,if_neg i3]; exact s1.same id i1 i2 i3⟩
      refine ih j (by omega) (seen ++ [e.2.2]) h2 (don ++ [(e.1,e.2.1)]) _ s2 (by rw [g2,if_neg (by omega),g1,if_pos rfl]) (by omega) (by omega) (by have:=hpe.length_eq; simp at this; omega) hperm2 ?_ hk
      rw [List.map_append,List.map_cons,List.map_nil,hent]
      exact (YZ _ _).trans ((hacc.cons _).trans (List.perm_append_comm (l₁:=[_])))
    · rw [XD hall'] at hc; cases hc
def mapId (v : AV) (k : Nat→Prop) : Prop :=
  match v with
  | .map f=>k f
  | _=>False
def Qao (N : Nat) (k : Int→H→Prop) (v : AV × Unit) (d : List Dfr) (h : H) : Prop:=GN d (
  Za v.1 (faK 2 v.1 fun p36 => stV p36 AV.nils h fun h37 => Za v.1 (faK 6 v.1 fun p38 => stV p38 (AV.bool false) h37 fun h39 => Za v.1 (faK 5 v.1 fun p40 => stV p40 (AV.bool false) h39 fun h41 =>
    ck (Nat.ble N h41.next) (ck (Nat.ble h41.base h41.next) (Qs (.smap []) h41 fun n42 h43=>Za v.1 (Go.Am.asPtr v.1 fun _ _=>faK 0 v.1 fun p44=>faK 1 p44 fun p45=>ldV p45 h43 fun v46=>smC v46 h43 fun m es=>
      ck (Nat.ble h43.base m) (ck (Nat.ble es.length 1000000) (ck (Nat.blt m n42) (faK 0 p44 fun p63=>ldV p63 h43 fun v64=>mapId v64 fun f=>ck (Nat.blt f n42) (
        Qe4 (.map f) h43 es [] fun kept=>ZL n42 (.smap kept) h43 fun ha=>Qs .dead ha fun _ hb=>stV p63 (.map n42) hb fun hc=>k (Int.ofNat 0) hc)))))))))))
theorem U6 (off i o : Nat) (k : AV→Prop) : faK off (.ptr i o) k = k (.ptr i (Nat.add o off)):=by
  show fN (Nat.add o off) (fun o=>k (.ptr i o)) = _; rw [Zk]
theorem rest65_imp {c99 : AV → AV → H → (H → Prop) → Prop} {N : Nat} {k : Int → H → Prop} {v : AV × Unit} {d : List Dfr} {h : H} (q : Qao N k v d h) : s65R J0 c99 (fun r h1 => ∃ h2, Deader N h1 h2 ∧ k r h2) v d h := by
  unfold Qao GN at q
  split at q
  rotate_left
  · exact q.elim
  rw [rest65_is]
  refine Go.Am.okNil_mono (fun q=>?_) q
  refine Go.Am.faK_mono (fun p36 q=>?_) q
  refine Go.Am.stV_mono (fun h37 q=>?_) q
  refine Go.Am.okNil_mono (fun q=>?_) q
  refine Go.Am.faK_mono (fun p38 q=>?_) q
  refine Go.Am.stV_mono (fun h39 q=>?_) q
  refine Go.Am.okNil_mono (fun q=>?_) q
  refine Go.Am.faK_mono (fun p40 q=>?_) q
  refine Go.Am.stV_mono (fun h41 q=>?_) q
  rw [Qz,Qz,Qv,Qv] at q
  obtain ⟨hN,hwf,q⟩:=q
  rw [QX] at q ⊢
  obtain ⟨n42,h43,p43,q⟩:=q
  refine ⟨n42,h43,p43,?_⟩
  obtain ⟨en,nn,bb,wf43,g99⟩:=H.push_some p43 ⟨hwf⟩
  have hok : Za v.1 True:=Go.Am.okNil_mono (fun _=>trivial) q
  refine Go.Am.okNil_mono (fun q=>?_) q
  rw [Go.Am.asPtr_iff] at q
  obtain ⟨i,o,ev,q⟩:=q
  rw [ev,U6,U6] at q
  rw [ev,U6,U6]
  refine Go.Am.ldV_mono (fun v46 q=>?_) q
  obtain ⟨m,es,rfl,hg,q⟩:=smC_imp q
  rw [Qz,Qz,Qz,Qv,Qv,QP] at q
  obtain ⟨hbm,hlen,hmn,q⟩:=q
  rw [U6] at q
  obtain ⟨v64,hv64,q⟩:=Go.Am.ldV_eq q
  unfold mapId at q
  split at q
  rotate_left
  · exact q.elim
  rename_i f
  rw [Qz,QP] at q
  obtain ⟨hfn,q⟩:=q
  obtain ⟨kept,q,hall,hperm,hnd⟩:=G2 q (by simp)
  rw [List.nil_append] at hperm hnd
  rw [QZ] at q
  obtain ⟨ha,pa,q⟩:=q
  obtain ⟨_,hbn,na,ba,ga⟩:=Q1 pa
  rw [QX] at q
  obtain ⟨rr,hb,pb,q⟩:=q
  obtain ⟨er,nb,bb2,_,gb⟩:=H.push_some pb ⟨by rw [na,ba]; exact wf43.low⟩
  unfold Z9
  simp only [hg]
  intro es' clock hs
  obtain ⟨hc,pc⟩:=ZB (h:=h43) (i:=m) (.amap es' clock) (by omega) hbm
  obtain ⟨_,_,nc,bc,gc⟩:=Q1 pc
  obtain ⟨hd,pd⟩:=Y6 hc (.miter (some m) clock [] clock)
  obtain ⟨_,nd,bd,_,gd⟩:=H.push_some pd ⟨by rw [nc,bc]; exact wf43.low⟩
  simp only [pc,pd]
  rw [J0.lp_ok]
  have hnx : hc.next = h43.next:=nc
  refine loop65 (es0:=es) (es:=es') (clock:=clock) (hB:=h43) (f:=f) (m:=m) (n:=n42) (p62:=.ptr i (Nat.add o 0)) (p63:=.ptr i (Nat.add (Nat.add o 0) 0)) (ev ▸ hok) (fun k=>by rw [U6]) (fun k=>by rw [U6]) (by omega)
    (show ldV (.ptr i (Nat.add (Nat.add o 0) 0)) h43 _ by rw [hv64]) hall hnd hbm (by omega) (by omega) (by omega) es'.length fuel ?_ [] hd [] [] ⟨hg,?_,?_,by omega,?_,?_,hs,fun id i1 i2 i3=>?_⟩ ?_ (by omega) (by omega) (by rw [Vg]) ?_ (by simp) ?_
  · have:=hs.length; unfold fuel; omega
  · rw [hnx]; exact H.get_of_le (Nat.le_refl _)
  · rw [g99,if_pos en]
  · rw [gd,if_neg (by omega),gc,if_pos rfl]
  · rw [gd,if_neg (by omega),gc,if_neg (by omega),g99,if_pos en]
  · rw [gd,if_neg i2,gc,if_neg i1]
  · rw [gd,if_pos rfl]
  · rw [Vg]; simpa using hs.perm
  · intro h2 acc hacc hm hr hn hsame hnext hbase
    refine stV_deader (N:=N) (h2:=hb) ⟨by omega,by omega,fun id hi=>?_,fun id hi=>?_⟩ q fun h1' h2' d q=>⟨h2',d,q⟩
    · rw [gb, if_neg (by omega), ga, if_neg (by omega)]
      by_cases i1 : id = m
      · subst i1; rw [hm,hg]
      · rw [hsame id i1 (by omega) (by omega)]
    · by_cases i1 : id = n42
      · subst i1
        refine .inr (.inr ⟨acc,kept,hn,?_,hacc.trans hperm.symm⟩)
        rw [gb,if_neg (by omega),ga,if_pos rfl]
      · by_cases i2 : id = hc.next
        · subst i2; refine .inl ?_; rw [gb,if_pos (by omega),hr]
        · refine .inl ?_
          rw [gb,if_neg (by omega),ga,if_neg i1]
          by_cases i3 : id = m
          · subst i3; rw [hm,hg]
          · rw [hsame id i3 i2 i1]
theorem up99_of {a b : AV} {h : H} {k k' : H→Prop} (hk : ∀ h,k h→k' h) : s99 a b h k→Qdx a b h k':=fun q=>⟨k,q,hk⟩
theorem s65H_mono {R R' : AV × Unit→List Dfr→H→Prop} (hR : ∀ v d h,R v d h→R' v d h) {k k' : Int→H→Prop} (hk : ∀ r h,k r h→k' r h) {a0 : AV} {a1 a2 : Int} {h : H} : QdT J0 s99 R a0 a1 a2 h k→QdT J0 Qdx R' a0 a1 a2 h k':=by
  unfold QdT
  repeat' with_reducible first
    | exact hR _ _ _
    | exact hk _ _
    | refine Go.Am.nilB_mono fun _=>?_
    | refine jn_mono (fun _ _=>?_) fun _ _ _=>?_
    | refine jd_mono (fun _ _ _=>?_) fun _ _ _=>?_
    | refine pickB_mono fun _=>?_
    | refine VP ?_ ?_
    | refine fB_mono fun _=>?_
    | refine fI_mono fun _=>?_
    | refine Go.Am.okNil_mono ?_
    | refine faK_mono fun _=>?_
    | refine Go.Am.ldV_mono fun _=>?_
    | refine Go.Am.ldN_mono fun _=>?_
    | refine lenK_mono fun _=>?_
    | refine lp_mono fun _ _ _ _ _ _=>?_
    | refine Um fun _=>?_
    | refine ixK_mono fun _=>?_
    | refine slK_mono fun _=>?_
    | refine pushK_mono fun _ _=>?_
    | refine Go.Am.stN_mono fun _=>?_
    | refine Go.Am.stV_mono fun _=>?_
    | refine up99_of fun _=>?_
    | refine WX fun _=>?_
    | refine leave_gam fun _=>?_
    | refine Go.Am.ldI_mono fun _=>?_
    | refine ldB_mono fun _=>?_
    | refine ldS_mono fun _=>?_
    | refine YU fun _=>?_
    | refine Ul fun _=>?_
    | refine asAgg_mono fun _=>?_
    | refine asTup_mono fun _=>?_
    | refine WL fun _=>?_
    | refine pickI_mono fun _=>?_
    | refine pickS_mono fun _=>?_
    | refine pickV_mono fun _=>?_
    | refine Qc1 fun _=>?_
    | refine Y8 fun _=>?_
    | refine ixsK_mono fun _=>?_
    | refine obK_mono fun _=>?_
    | refine Vi fun _=>?_
    | refine ZE ?_
    | refine jb_mono (fun _ _=>?_) fun _ _ _=>?_
    | apply_assumption
def s65' (a0 : AV) (a1 a2 : Int) (h : H) (k : Int→H→Prop) : Prop:=QdT J0 s99 (Qao h.next k) a0 a1 a2 h k
theorem s65'_imp {a0 : AV} {a1 a2 : Int} {h : H} {k : Int→H→Prop} (q : s65' a0 a1 a2 h k) : s65G J0 Qdx a0 a1 a2 h fun r h1=>∃ h2,Deader h.next h1 h2 ∧ k r h2:=by
  rw [s65_hole]
  exact s65H_mono (fun v d h' q=>rest65_imp q) (fun r h' q=>⟨h',.refl _ _,q⟩) q
def g65' : Fun:=w65 s65'
theorem g65'_ok : Qe Tryz.prog 65 g65' :=
  (Qf Qi Qj (Qg (J:=J0) (Qa up99_ok (Qc Qd))) Tryz.func65 (fun args w=>by simp)).deader fun xs h k _ e0=>by
    obtain ⟨a0,xs0,rfl,e1⟩:=Qp e0
    obtain ⟨a1,xs1,rfl,e2⟩:=Qp e1
    obtain ⟨a2,xs2,rfl,e3⟩:=Qp e2
    obtain ⟨rfl,e4⟩:=Qt e3
    obtain ⟨a1,rfl,e5⟩:=QD.1 e4
    obtain ⟨a2,rfl,e6⟩:=QD.1 e5
    exact (s65_eq J0 Qdx a0 a1 a2 h _).mpr (s65'_imp e6)
end Go.Proofs.YtodlaigjjknpkaaGreatDoor
