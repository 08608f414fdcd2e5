import Derived.Test.YtbcfpeelkaoljaaDoorKpJ
namespace Go.Proofs.YtbcfpeelkaoljaaDoor
open Go Go.Am
set_option linter.all false
set_option maxRecDepth 100000
theorem beq_self' (l:List UInt8):Str.beq (Str.of l) (Str.of l)=true:=by rw [Str.beq_of];simp
theorem ob_some (b:Bool) (k:Bool→Prop):obK (some (.bool b)) k=k b:=rfl
theorem neW (t:Wt):UU ty .neq 47 false (.agg (wrc t)) (.agg (wrc t))=some (.bool false):=by
  have:UU ty .neq 47 false (.agg (wrc t)) (.agg (wrc t))=Option.map (fun b=>AV.bool (Bool.not b)) (match some (Str.beq (Str.of t.1) (Str.of t.1)) with | some true=>(match some (Str.beq (Str.of t.2.1) (Str.of t.2.1)) with | some true=>(match some (Bool.rec (Bool.not t.2.2) t.2.2 t.2.2:Bool) with | some true=>some true | some false=>some false | none=>none) | some false=>some false | none=>none) | some false=>some false | none=>none):=rfl
  rw [this];simp only [beq_self'];cases t.2.2 <;> rfl
structure Bp (h:H) (v:AV) (l:List Bt):Prop where
  len:∀ k:Nat→Prop,Zi v k=k l.length
  rd:∀ (i:Nat) (hi:i < l.length),∃ id o w,(∀ (kk:IntKind) (k:AV→Prop),ixK 2 v (.int kk (Int.ofNat i)) k=k (.ptr id o))∧(∀ (h':H),(∀ id,id < h.next→h'.get id=h.get id)→∀ k:Int→Prop,ldI .i64 (.ptr id (Nat.add o 0)) h' k=k (Int.ofNat l[i].1))∧(∀ (h':H),(∀ id,id < h.next→h'.get id=h.get id)→∀ k:AV→Prop,ldV (.ptr id (Nat.add o 1)) h' k=k w)∧RowP wrc 3 h w l[i].2
theorem Bp.only {h h':H} {v:AV} {l:List Bt} (q:Bp h v l) (o:Only noL h h'):Bp h' v l:=by
  refine ⟨q.len,fun i hi=>?_⟩
  obtain ⟨id,p,w,a,b,c,d⟩:=q.rd i hi
  have g:∀ h'':H,(∀ id,id < h'.next→h''.get id=h'.get id)→∀ id,id < h.next→h''.get id=h.get id:=fun h'' e id hi=>(e id (Nat.lt_of_lt_of_le hi o.next)).trans (o.get id hi fun c=>c)
  exact ⟨id,p,w,a,fun h'' e=>b h'' (g h'' e),fun h'' e=>c h'' (g h'' e),d.onl o fun j hj c=>c⟩
theorem Lb.bp {N:Nat} {h:H} {v:AV} {l:List Bt} (r:Lb N h v l):Bp h v l:=by
  obtain ⟨es,gr,e1,e2⟩:=r
  refine ⟨fun k=>by rw [gr.row.len,e1],fun i hi=>?_⟩
  have hi':i < es.length:=by omega
  obtain ⟨id,o,p1,p2,p3⟩:=Qcp V1 gr.row (i:=i) hi'
  obtain ⟨a,b,c⟩:=e2 i hi' hi
  exact ⟨id,o,es[i].2.1,p1,fun h' hg k=>by rw [← a];exact p2 h' 0 _ k hg (by decide) rfl,fun h' hg k=>p3 h' 1 _ k hg (by decide) rfl,b⟩
theorem QdR {h:H} {id m':Nat} {m:Bool} {es:List Be} {l:List Bt} (g:h.get id=.cells m m' (es.flatMap be)) (e:es.length=l.length) (e2:∀ (i:Nat) (h1:i < es.length) (h2:i < l.length),es[i].1=l[i].1∧RowP wrc 3 h es[i].2.1 l[i].2) {o n c:Nat} {ex:Bool} (hn:o+n≤l.length):Bp h (.slice id (o * 2) n c 2 ex) ((l.drop o).take n):=by
  have hlen:((l.drop o).take n).length=n:=by rw [List.length_take,List.length_drop];omega
  refine ⟨fun k=>by rw [hlen];rfl,fun i hi=>?_⟩
  rw [hlen] at hi
  have h1:o+i < es.length:=by omega
  have h2:o+i < l.length:=by omega
  obtain ⟨a,b⟩:=e2 (o+i) h1 h2
  have q4:Yb 2 (Yu ((o+i) * 2) (es.flatMap be))=some (be es[o+i]):=by
    rw [WK,Y1,Ki V1 es h1]
    rw [List.length_drop,ZR V1]
    omega
  have el:((l.drop o).take n)[i]'(by omega)=l[o+i]:=by rw [List.getElem_take,List.getElem_drop]
  refine ⟨id,(o+i) * 2,es[o+i].2.1,fun kk k=>?_,fun h' hg k=>?_,fun h' hg k=>?_,by rw [el];exact b⟩
  · show ck (Nat.blt i n) (fN (Nat.add (o * 2) (Nat.mul i 2)) fun o => k (.ptr id o)) = _
    rw [(QH _ _).2 hi,QX]
    have e:Nat.add (o * 2) (Nat.mul i 2)=(o+i) * 2:=by show o * 2+i * 2=_;omega
    rw [e];rfl
  · rw [el,← a];exact Q1 ((hg id (H.lt_of_live (by rw [g];rfl))).trans g) ((Ws q4 (by decide)).trans rfl) k
  · exact QZ ((hg id (H.lt_of_live (by rw [g];rfl))).trans g) ((Ws q4 (by decide)).trans rfl) k
theorem Lb.take {N:Nat} {h:H} {v:AV} {l:List Bt} (r:Lb N h v l) {n:Nat} {kk:IntKind} {k:AV→Prop} (hn:n≤l.length) (hk:∀ v',Bp h v' (l.take n)→k v'):slK 2 v none (some (.int kk (Int.ofNat n))) k:=by
  obtain ⟨es,gr,e1,e2⟩:=r
  rcases gr with ⟨rfl,rfl⟩ | ⟨id,m,rfl,g2,g3,g4⟩
  · have hl : l = [] := List.length_eq_zero_iff.1 e1.symm
    subst hl
    have:n=0:=by simpa using hn
    subst this
    unfold slK
    rw [Wx]
    show ck (Nat.beq 0 0) (ck (Nat.beq 0 0) (k .nils))
    exact Qm rfl (Qm rfl (hk _ ⟨fun k=>rfl,fun i hi=>absurd hi (Nat.not_lt_zero _)⟩))
  · have hp := fun c => QdR (h := h) (o := 0) (n := n) (c := c) (ex := false) g4 e1 (fun i h1 h2 => ⟨(e2 i h1 h2).1, (e2 i h1 h2).2.1⟩) (by omega)
    simp only [List.drop_zero] at hp
    unfold slK
    rw [Zp]
    show ck (Nat.ble n es.length) (ck (Nat.ble 0 n) (ck (Nat.beq 2 2) (br (Nat.beq es.length 0) _ _)))
    refine Qm ((Qh _ _).2 (by omega)) (Qm ((Qh _ _).2 (Nat.zero_le _)) (Qm rfl (QD (fun h0=>?_) fun h0=>?_)))
    · rw [QX];exact hk _ (hp _)
    · rw [QX,QX,QX];exact hk _ (hp _)
theorem Lb.drop {N:Nat} {h:H} {v:AV} {l:List Bt} (r:Lb N h v l) {n:Nat} {kk:IntKind} {k:AV→Prop} (hn:n < l.length) (hk:∀ v',Bp h v' (l.drop n)→k v'):slK 2 v (some (.int kk (Int.ofNat n))) none k:=by
  obtain ⟨es,gr,e1,e2⟩:=r
  rcases gr with ⟨rfl,rfl⟩ | ⟨id,m,rfl,g2,g3,g4⟩
  · have : (0 : Nat) = l.length := e1
    omega
  · have hp := fun c => QdR (h := h) (o := n) (n := l.length - n) (c := c) (ex := false) g4 e1 (fun i h1 h2 => ⟨(e2 i h1 h2).1, (e2 i h1 h2).2.1⟩) (by omega)
    rw [List.take_of_length_le (by rw [List.length_drop];exact Nat.le_refl _)] at hp
    unfold slK
    rw [Zp]
    show ck (Nat.ble es.length es.length) (ck (Nat.ble n es.length) (ck (Nat.beq 2 2) (br (Nat.beq es.length n) _ _)))
    refine Qm ((Qh _ _).2 (Nat.le_refl _)) (Qm ((Qh _ _).2 (by omega)) (Qm rfl (QD (fun h0=>?_) fun h0=>?_)))
    · rw [Nat.beq_eq] at h0;omega
    · rw [QX, QX, QX]
      have a1:Nat.add 0 (Nat.mul n 2)=n * 2:=by show 0+n * 2=_;omega
      have a2:Nat.sub es.length n=l.length - n:=by rw [e1];rfl
      rw [a1,a2]
      exact hk _ (hp _)
theorem bp_one {h:H} {j t s c:Nat} {m ex:Bool} {v:AV} {l:List Wt} (g:h.get j=.cells m t [.int .i64 (Int.ofNat s),v]) (q:RowP wrc 3 h v l):Bp h (.slice j 0 1 c 2 ex) [(s,l)]:=by
  refine ⟨fun k=>rfl,fun i hi=>?_⟩
  have:i=0:=by simpa using hi
  subst this
  exact ⟨j,0,v,fun kk k=>by rw [ixKn (by decide)],fun h' hg k=>Q1 ((hg j (H.lt_of_live (by rw [g];rfl))).trans g) rfl k,fun h' hg k=>QZ ((hg j (H.lt_of_live (by rw [g];rfl))).trans g) rfl k,q⟩
section
variable {KB:Bool→H→Prop}
theorem t7 {l:List Wt} {v:AV} {h:H} (q:RowP wrc 3 h v l) (hl:l.length≤140737488351232) (hk:∀ b,KB b h):s7G J0 v h KB:=by
  unfold s7G
  refine Y2 l.length (fun i x h'=>x=(v,.int .i64 (Int.ofNat i),())∧h'=h) (by omega) ?_ ?_ ⟨rfl,rfl⟩
  · rintro i x h' self hi ⟨rfl, rfl⟩ hs
    dsimp only
    obtain ⟨id,o,p1,_,p3,_⟩:=q.rd VC hi
    have QL:=q.len
    have d1:∀ k,ldS (.ptr id (Nat.add o 0)) h' k=k (Str.of l[i].1):=fun k=>p3 h' 0 _ k (fun _ _=>rfl) (by decide) rfl
    have d2:∀ k,ldS (.ptr id (Nat.add o 1)) h' k=k (Str.of l[i].2.1):=fun k=>p3 h' 1 _ k (fun _ _=>rfl) (by decide) rfl
    simp only [↓QL,↓Qd,↓Qi,ZP hi,↓QU,↓p1,↓Qt,↓d1,WU]
    cases B1:ltI (Int.ofNat 600) (Int.ofNat l[i].1.length) <;> cases B2:ltI (Int.ofNat 600) (Int.ofNat l[i].2.1.length) <;> cases B3:ltI (Int.ofNat 4096) (Int.ofNat l[i].2.1.length) <;> cases B4:ltI (Int.ofNat 4105) (Int.ofNat l[i].2.1.length) <;>
      simp only [↓Qd,↓Qi,↓QU,↓Qq,↓p1,↓Qt,↓d2,WU,↓Qs,↓QQ,↓QA,↓Ql,↓Zc,↓JS,↓VS,B2,B3,B4,↓Bool.not_true,↓Bool.not_false,↓Qx,Jh i (by omega)] <;>
      first
      | exact hk _
      | exact hs _ _ ⟨rfl,rfl⟩
  · rintro x h' self ⟨rfl, rfl⟩
    dsimp only
    rw [q.len,Qd,Qi,Zr (Nat.le_refl _),Qq]
    exact hk _
theorem t31 {l:List Wt} {v w:AV} {h:H} (q:RowP wrc 3 h v l) (q':RowP wrc 3 h w l) (hl:l.length≤140737488351232) (hk:KB true h):Qbk J0 v w h KB:=by
  unfold Qbk
  rw [q.len,q'.len,Qi,JM,decide_eq_true rfl,Bool.not_true,Qq]
  refine Y2 l.length (fun i x h'=>x=(v,w,.int .i64 (Int.ofNat i),())∧h'=h) (by omega) ?_ ?_ ⟨rfl,rfl⟩
  · rintro i x h' self hi ⟨rfl, rfl⟩ hs
    dsimp only
    obtain ⟨id,o,p1,p2,_⟩:=q.rd VC hi
    obtain ⟨id',o',p1',p2',_⟩:=q'.rd VC hi
    rw [q.len,Qd,Qi,ZP hi,QU,p1,p2 h' _ (fun _ _=>rfl),p1',p2' h' _ (fun _ _=>rfl),neW,ob_some,Qq,Qd,Qx,Jh i (by omega)]
    exact hs _ _ ⟨rfl,rfl⟩
  · rintro x h' self ⟨rfl, rfl⟩
    dsimp only
    rw [q.len,Qd,Qi,Zr (Nat.le_refl _),Qq]
    exact hk
theorem NM (x:Int):eqI x x=true:=Zj.2 rfl
theorem t13 {l:List Bt} {v w:AV} {h:H} (q:Bp h v l) (q':Bp h w l) (hb:∀ b∈l,b.2.length≤140737488351232) (hl:l.length≤1000000) (hk:KB true h):Qcl J0 (Qbk J0) v w h KB:=by
  unfold Qcl
  rw [q.len,q'.len,Qi,JM,decide_eq_true rfl,Bool.not_true,Qq]
  refine Y2 l.length (fun i x h'=>x=(v,w,.int .i64 (Int.ofNat i),())∧h'=h) (by omega) ?_ ?_ ⟨rfl,rfl⟩
  · rintro i x h' self hi ⟨rfl, rfl⟩ hs
    dsimp only
    obtain ⟨id,o,u,i1,d1,d3,r1⟩:=q.rd i hi
    obtain ⟨id',o',u',i2,d2,d4,r2⟩:=q'.rd i hi
    have d1:=d1 h' fun _ _=>rfl
    have d2:=d2 h' fun _ _=>rfl
    have d3:=d3 h' fun _ _=>rfl
    have d4:=d4 h' fun _ _=>rfl
    have L1:=q.len
    simp only [↓DQ,↓L1,↓Qd,↓Qi,ZP hi,↓QU,↓Qq,↓i1,↓i2,↓Qt,↓d1,↓d2,↓d3,↓d4,NM,↓Bool.not_true,↓Qs,↓QQ,↓QA,↓Ql]
    refine t31 r1 r2 (hb _ (List.getElem_mem hi)) ?_
    simp only [↓Qd,↓Qi,↓QU,↓Qq,↓Bool.not_true,↓Qs,↓QQ,↓QA,↓Ql,↓Qx,Jh i (by omega)]
    exact hs _ _ ⟨rfl,rfl⟩
  · rintro x h' self ⟨rfl, rfl⟩
    dsimp only
    rw [q.len,Qd,Qi,Zr (Nat.le_refl _),Qq]
    exact hk
theorem t12 {N N':Nat} {l r:List Bt} {v w:AV} {h:H} (q:Lb N h v (l++r)) (q':Lb N' h w l) (hb:∀ b∈l,b.2.length≤140737488351232) (hl:l.length≤1000000) (hk:KB true h):QeD J0 (Qcl J0 (Qbk J0)) v w h KB:=by
  unfold QeD
  have L1:=q.bp.len
  have L2:=q'.bp.len
  have z:ltI (Int.ofNat (l++r).length) (Int.ofNat l.length)=false:=Zr (by rw [List.length_append];omega)
  simp only [↓L1,↓L2,z,↓Qi,↓Bool.not_false,↓Qs,↓QU]
  refine q.take (by rw [List.length_append];omega) fun v' b=>?_
  rw [List.take_left] at b
  refine t13 b q'.bp hb hl ?_
  simp only [↓QU,↓Qs,↓QQ,↓Ql]
  exact hk
end
end Go.Proofs.YtbcfpeelkaoljaaDoor
namespace Go.Proofs.YtbcfpeelkaoljaaDoor
open Go Go.Am
set_option linter.all false
set_option maxRecDepth 100000
theorem N8.nil:N8 []:=.inl rfl
theorem NQ (ws:List Bt) (b:Bt):UK (ws++[b])=UK ws++QR (WO b.1 b.2):=by
  unfold UK Nc
  rw [List.map_append,List.flatMap_append]
  simp
def Full (cs:Cs) (x:Int) (d:List UInt8) (sure:List Bt):Prop:=∃ bs bl,Sg (cs++[(x,d)]) (bs++[bl])∧d=UK bl∧(bs++[bl]).flatten=sure
theorem flat_snoc (bs:List (List Bt)) (bl:List Bt) (b:Bt):(bs++[bl++[b]]).flatten=(bs++[bl]).flatten++[b]:=by simp
theorem Sg.add {cs:Cs} {bs:List (List Bt)} (s:Sg cs bs) (x:Int):Full cs x [] bs.flatten:=by
  have e:(bs++[([]:List Bt)]).flatten=bs.flatten:=by simp
  refine ⟨bs,[],⟨by rw [List.length_append,List.length_append,s.len];rfl,fun i h1 h2=>?_,by rw [e];exact s.ok,fun i hi=>?_,by rw [e];exact s.few⟩,rfl,e⟩
  · rw [List.length_append] at h1
    have h1:i < cs.length+1:=h1
    have sl:=s.len
    by_cases h:i < cs.length
    · rw [List.getElem_append_left h, List.getElem_append_left (by omega)]
      exact s.dat i h (by omega)
    · have : i = cs.length := by omega
      subst this
      have e1:(cs++[(x,([]:List UInt8))])[cs.length]'(by simp)=(x,[]):=by rw [List.getElem_append_right (Nat.le_refl _)];simp
      have e2:(bs++[([]:List Bt)])[cs.length]'h2=[]:=by rw [List.getElem_append_right (by omega)];simp [sl]
      rw [e1,e2]
      exact ⟨[],rfl,N8.nil⟩
  · have hi' := hi
    rw [e] at hi'
    have:=s.seq i hi'
    rw [List.getElem_of_eq e];exact this
theorem Full.sg {cs:Cs} {x:Int} {d:List UInt8} {sure:List Bt} (f:Full cs x d sure):∃ bs,Sg (cs++[(x,d)]) bs∧bs.flatten=sure:=by
  obtain ⟨bs,bl,h1,h2,h3⟩:=f
  exact ⟨_,h1,h3⟩
theorem QdS {n:Nat} {l:List Wt} (hc:Y4 l=Int.ofNat 0) (hn:n+1≤1000):BOk (n+1,l):=⟨by omega,by show n+1≤_;omega,hc,by have:=QaP (s:=n+1) (by omega) hc;show (WO (n+1) l).length≤_;omega⟩
theorem Full.chg {cs:Cs} {x:Int} {d d':List UInt8} {bs:List (List Bt)} {bl bl':List Bt} {t:List UInt8} (s:Sg (cs++[(x,d)]) (bs++[bl])) (hd:d'=UK bl'++t) (ht:N8 t) (ok:∀ b∈(bs++[bl']).flatten,BOk b) (seq:∀ (i:Nat) (h1:i < (bs++[bl']).flatten.length),(bs++[bl']).flatten[i].1=i+1) (few:(bs++[bl']).flatten.length≤1000):Sg (cs++[(x,d')]) (bs++[bl']):=by
  have sl:=s.len
  rw [List.length_append,List.length_append] at sl
  have sl:bs.length+1=cs.length+1:=sl
  refine ⟨by rw [List.length_append,List.length_append];exact sl,fun i h1 h2=>?_,ok,seq,few⟩
  rw [List.length_append] at h1
  have h1:i < cs.length+1:=h1
  by_cases h:i < cs.length
  · have := s.dat i (by rw [List.length_append]; exact h1) (by rw [List.length_append]; show i < bs.length + 1; omega)
    rw [List.getElem_append_left h,List.getElem_append_left (by omega)] at this ⊢
    exact this
  · have : i = cs.length := by omega
    subst this
    have e1:(cs++[(x,d')])[cs.length]'(by simp)=(x,d'):=by rw [List.getElem_append_right (Nat.le_refl _)];simp
    have e2:(bs++[bl'])[cs.length]'h2=bl':=by rw [List.getElem_append_right (by omega)];simp [show cs.length - bs.length=0 by omega]
    rw [e1,e2]
    exact ⟨t,hd,ht⟩
theorem seq_snoc {l:List Bt} {b:Bt} (h:∀ (i:Nat) (hi:i < l.length),l[i].1=i+1) (hb:b.1=l.length+1):∀ (i:Nat) (hi:i < (l++[b]).length),(l++[b])[i].1=i+1:=by
  intro i hi
  by_cases h1:i < l.length
  · rw [List.getElem_append_left h1];exact h i h1
  · have : i = l.length := by simp at hi; omega
    subst this
    rw [List.getElem_append_right (Nat.le_refl _)];simpa using hb
theorem Full.put {cs:Cs} {x:Int} {d:List UInt8} {sure:List Bt} (f:Full cs x d sure) {l:List Wt} (hc:Y4 l=Int.ofNat 0) (hn:sure.length+1≤1000):Full cs x (d++QR (WO (sure.length+1) l)) (sure++[(sure.length+1,l)]):=by
  obtain ⟨bs,bl,s,h2,rfl⟩:=f
  have e:=flat_snoc bs bl ((bs++[bl]).flatten.length+1,l)
  refine ⟨bs,bl++[((bs++[bl]).flatten.length+1,l)],Full.chg s (t:=[]) ?_ N8.nil ?_ ?_ ?_,?_,e⟩
  · rw [NQ,h2,List.append_nil]
  · rw [e]; intro b hb
    rcases List.mem_append.1 hb with hb | hb
    · exact s.ok b hb
    · have hb : b = ((bs ++ [bl]).flatten.length + 1, l) := by simpa using hb
      subst hb;exact QdS hc hn
  · intro i hi
    have hi':=hi
    rw [e] at hi'
    rw [List.getElem_of_eq e]
    exact seq_snoc s.seq rfl i hi'
  · rw [e,List.length_append];exact hn
  · rw [NQ,h2]
theorem Full.cut {cs:Cs} {x:Int} {d:List UInt8} {sure:List Bt} (f:Full cs x d sure) {l:List Wt} (hc:Y4 l=Int.ofNat 0) (hn:sure.length+1≤1000) {p:List UInt8} (hp:p <+: QR (WO (sure.length+1) l)):∃ bs',Sg (cs++[(x,d++p)]) bs'∧(bs'.flatten=sure∨bs'.flatten=sure++[(sure.length+1,l)]):=by
  by_cases h:p=QR (WO (sure.length+1) l)
  · subst h
    obtain ⟨bs,h1,h2⟩:=(f.put hc hn).sg
    exact ⟨bs,h1,.inr h2⟩
  · obtain ⟨bs, bl, s, h2, rfl⟩ := f
    have hl:p.length < (QR (WO ((bs++[bl]).flatten.length+1) l)).length:=by
      rcases Nat.lt_or_ge p.length (QR (WO ((bs++[bl]).flatten.length+1) l)).length with h' | h'
      · exact h'
      · exact absurd (hp.eq_of_length_le h') h
    have hk:=QaP (s:=(bs++[bl]).flatten.length+1) (by omega) hc
    exact ⟨bs++[bl],Full.chg s (t:=p) (by rw [h2]) (.inr ⟨_,hp,hl,by omega⟩) s.ok s.seq s.few,.inl rfl⟩
theorem Cr.imp {S S':Cs→Prop} {fs:Fs} (c:Cr S fs) (h:∀ cs,S cs→S' cs):Cr S' fs:=fun k t hk ht=>by
  obtain ⟨a,b,cs,h1,h2⟩:=c k t hk ht
  exact ⟨a,b,cs,h cs h1,h2⟩
def Cx (M Q:Nat) (sure:List Bt) (nw:Bt) (fs:Fs):Prop:=Cr (fun e=>∃ bs,Sg e bs∧e.length≤M∧bs.flatten.length≤Q∧(bs.flatten=sure∨bs.flatten=sure++[nw])) fs
theorem Full.cx {cs:Cs} {x:Int} {d:List UInt8} {sure:List Bt} (f:Full cs x d sure) {fs:Fs} {N c M Q:Nat} {nw:Bt} (o:LgOn (cs++[(x,d)]) fs) (i:Inv fs N c) (hM:cs.length+1≤M) (hQ:sure.length≤Q):Cx M Q sure nw fs:=by
  obtain ⟨bs,h1,h2⟩:=f.sg
  exact (o.lg.cr0 i o.w).imp fun e he=>by subst he;exact ⟨bs,h1,by rw [List.length_append];exact hM,by rw [h2];exact hQ,.inl h2⟩
theorem Lb.mono {N N':Nat} {h:H} {v:AV} {l:List Bt} (r:Lb N' h v l) (hN:N≤N'):Lb N h v l:=by
  obtain ⟨es,gr,e⟩:=r
  refine ⟨es,?_,e⟩
  rcases gr with gr | ⟨id,m,g1,g2,g3,g4⟩
  · exact .inl gr
  · exact .inr ⟨id,m,g1,by omega,g3,g4⟩
theorem Qdi {h:H} {g:FsG} {fs:Fs} (f:FsAt h g fs) {i:Nat} (o:Own g i) {m:Bool} {t:Nat} {cs:List AV} (e:h.get i=.cells m t cs) (ht:t=34∨t=40):False:=by
  obtain ⟨w,e1,e2⟩:=f.obj
  rcases o with rfl | rfl | rfl | o
  · rw [e1] at e;injection e with _ e _;rcases ht with rfl | rfl <;> cases e
  · obtain ⟨es,e3,_⟩:=f.tree.files;rw [e3] at e;cases e
  · rw [f.tree.names] at e;cases e
  · rcases e2 with ⟨_, _, h1⟩ | ⟨hw, id, mv, cs', h1, h2, h3, h4, h5⟩
    · rw [h1] at o;cases o
    · rw [h1] at o; injection o with o; subst o
      rw [h4] at e
      injection e with _ e _;rcases ht with rfl | rfl <;> cases e
theorem K0 {h h':H} {g g':FsG} {fs:Fs} {W seq sg:Nat} {br:Bool} (f:FsAt h g fs) (w:WalAt h W g seq sg br) (n:NxtX (isW W) h g h' g') {X:Nat} {m:Bool} {t:Nat} {cs:List AV} (e:h.get X=.cells m t cs) (ht:t=34∨t=40):h'.get X=.cells m t cs:=by
  refine n.o.at e rfl fun c=>?_
  rcases c with c | c
  · exact Qdi f c e ht
  · have c : X = W := c
    subst c
    rw [w.at_] at e;injection e with _ e _;rcases ht with rfl | rfl <;> cases e
theorem QeX {h h':H} {g g':FsG} {fs:Fs} (f:FsAt h g fs) (n:Nxt h g h' g') {X:Nat} {m:Bool} {t:Nat} {cs:List AV} (e:h.get X=.cells m t cs) (ht:t=34∨t=40):h'.get X=.cells m t cs :=
  n.o.at e rfl fun c=>Qdi f c e ht
theorem Lb.snoc {N:Nat} {h:H} {v:AV} {l:List Bt} {b:Bt} {u:AV} {j c tj:Nat} {mj ex:Bool} {k:AV→H→Prop} (r:Lb N h v l) (one:Zv u=true) (q:RowP wrc 3 h u b.2) (ne:b.2≠[]) (hj:h.get j=.cells mj tj [.int .i64 (Int.ofNat b.1),u]) (hb:h.base≤N) (hn:N≤h.next) (hl:l.length≤1000000)
    (hk:∀ v' h',Lb N h' v' (l++[b])→Only (ZX v) h h'→k v' h'):apC 40 2 32 v (.slice j 0 1 c 2 ex) h k:=by
  obtain ⟨es,gr,e⟩:=r
  have el:es.length=l.length:=e.1
  refine Qcb (a:=(⟨b.1,u,one⟩:Be)) gr V1 QdZ hj hb hn (by rw [el];unfold Qe;omega) fun v' h' g' o' k'=>?_
  refine hk v' h' ⟨es++[(b.1,⟨u,one⟩)],g',Els.snoc (e.onl o' (fun _ c=>c) fun i hi c=>by have:=Ue c k';omega) rfl ?_ fun i hi c=>?_⟩ o'
  · exact q.onl o' fun i hi=>Db q ne gr hi
  · have := Ue c k'
    have:=q.blk hi
    omega
theorem QaA {α:Type} (P:α→List Dfr→H→Prop) {j:α→List Dfr→H→Prop} {b:(α→List Dfr→H→Prop)→Prop} (h1:∀ v d h,P v d h→j v d h) (h2:∀ jj:α→List Dfr→H→Prop,(∀ v d h,P v d h→jj v d h)→b jj):J0.jd j b:=h2 j h1
end Go.Proofs.YtbcfpeelkaoljaaDoor
namespace Go.Proofs.YtbcfpeelkaoljaaDoor
open Go Go.Am
set_option linter.all false
set_option maxRecDepth 100000
structure C0 (h0 h:H) (g:FsG) (fs:Fs) (W:Nat) (v:AV) (sure:List Bt) (A c:Nat):Prop where
  f:FsAt h g fs
  inv:Inv fs A c
  lb:Lb h0.next h v sure
  bk:∀ b∈sure,BOk b
  on:Only (fun i=>h0.next≤i) h0 h
  gl:∀ i,Own g i→h0.next≤i
  wl:h0.next≤W
  w:∃ n sg br,WalAt h W g n sg br
structure Qed (h:H) (W:Nat) (g:FsG) (cs:Cs) (y:Int) (d:List UInt8) (sure:List Bt) (fs:Fs):Prop where
  w:WalAt h W g sure.length (cs.length+1) false
  o:LgOn (cs++[(y,d)]) fs
  fu:Full cs y d sure
structure Brok (n:Int) (h:H) (W:Nat) (g:FsG) (fs:Fs) (M Q:Nat) (sure:List Bt) (nw:Bt):Prop where
  w:∃ n sg,WalAt h W g n sg true
  cx:Cx M Q sure nw fs
  fu:¬ n < 0
def Alt (n:Int) (h:H) (W:Nat) (g:FsG) (fs:Fs) (M Q:Nat) (sure:List Bt) (nw:Bt):Prop:=(∃ cs y d,Qed h W g cs y d sure fs∧cs.length+1≤M∧sure.length≤Q)∨Brok n h W g fs M Q sure nw
theorem Alt.pure {h h':H} {W:Nat} {g:FsG} {fs:Fs} {M Q:Nat} {sure:List Bt} {nw:Bt} {z:Int} (a:Alt z h W g fs M Q sure nw) (o:Only noL h h'):Alt z h' W g fs M Q sure nw:=by
  rcases a with ⟨cs,y,d,l,a,b⟩ | ⟨⟨n,sg,w⟩,b,c⟩
  · exact .inl ⟨cs,y,d,⟨l.w.nxt (Nxt.pure g o),l.o,l.fu⟩,a,b⟩
  · exact .inr ⟨⟨n,sg,w.nxt (Nxt.pure g o)⟩,b,c⟩
theorem Alt.cx {h:H} {W:Nat} {g:FsG} {fs:Fs} {M Q A c:Nat} {sure:List Bt} {nw:Bt} {z:Int} (a:Alt z h W g fs M Q sure nw) (i:Inv fs A c):Cx M Q sure nw fs:=by
  rcases a with ⟨cs,y,d,l,a,b⟩ | b
  · exact l.fu.cx l.o i a b
  · exact b.cx
structure LS (h0:H) (i:Nat) (h:H) (W:Nat) (v:AV) (cs:Cs) (y:Int) (d:List UInt8) (sure:List Bt) (g:FsG) (fs:Fs):Prop where
  c:C0 h0 h g fs W v sure (73+29221900 * i) (1+2 * i)
  l:Qed h W g cs y d sure fs
  ns:fs.fused=false
  few:cs.length≤2 * i
  q:sure.length≤i
theorem C0.ne {h0 h:H} {g:FsG} {fs:Fs} {W:Nat} {v:AV} {sure:List Bt} {A c:Nat} (k:C0 h0 h g fs W v sure A c):∀ b∈sure,b.2≠[]:=fun b hb=>Jc (k.bk b hb)
theorem C0.base {h0 h:H} {g:FsG} {fs:Fs} {W:Nat} {v:AV} {sure:List Bt} {A c:Nat} (k:C0 h0 h g fs W v sure A c) (hb:h0.base≤h0.next):h.base≤h0.next:=by rw [k.on.base];exact hb
theorem C0.step {h0 h h':H} {g g':FsG} {fs fs':Fs} {W:Nat} {v:AV} {sure:List Bt} {A c A' c':Nat} (k:C0 h0 h g fs W v sure A c) (n:NxtX (isW W) h g h' g') (f':FsAt h' g' fs') (i':Inv fs' A' c') (w':∃ n sg br,WalAt h' W g' n sg br):C0 h0 h' g' fs' W v sure A' c':=by
  obtain ⟨_,_,_,w⟩:=k.w
  refine ⟨f',i',k.lb.nxtW k.ne k.f w n,k.bk,k.on.trans n.o fun i hi c=>c.elim (k.gl i) fun e=>(show i=W from e) ▸ k.wl,fun i o=>?_,k.wl,w'⟩
  rcases n.own i o with c | c
  · exact k.gl i c
  · have:=k.on.next;omega
theorem C0.pure {h0 h h':H} {g:FsG} {fs:Fs} {W:Nat} {v:AV} {sure:List Bt} {A c:Nat} (k:C0 h0 h g fs W v sure A c) (o:Only noL h h'):C0 h0 h' g fs W v sure A c:=by
  obtain ⟨n,sg,br,w⟩:=k.w
  exact k.step (NxtX.pure g o) (k.f.only o fun _ _=>id) k.inv ⟨n,sg,br,w.nxt (Nxt.pure g o)⟩
theorem C0.mono {h0 h:H} {g:FsG} {fs:Fs} {W:Nat} {v:AV} {sure:List Bt} {A c A' c':Nat} (k:C0 h0 h g fs W v sure A c) (hA:A≤A') (hc:c≤c'):C0 h0 h g fs W v sure A' c' :=
  ⟨k.f,k.inv.mono hA hc,k.lb,k.bk,k.on,k.gl,k.wl,k.w⟩
theorem Qaf {h h':H} {W:Nat} {g:FsG} {n sg:Nat} {br:Bool} {v:AV} {N:Nat} {sure:List Bt} (w:WalAt h W g n sg br) (r:Lb N h v sure) (o:Only (ZX v) h h'):WalAt h' W g n sg br:=by
  obtain ⟨es,gr,_⟩:=r
  exact ⟨o.at w.at_ rfl (Qeg w gr),by rw [o.base];exact w.bs,w.not⟩
theorem C0.blk {h0 h h':H} {g:FsG} {fs:Fs} {W:Nat} {v v':AV} {sure sure':List Bt} {A c:Nat} (k:C0 h0 h g fs W v sure A c) (o:Only (ZX v) h h') (lb':Lb h0.next h' v' sure') (bk':∀ b∈sure',BOk b):C0 h0 h' g fs W v' sure' A c:=by
  obtain ⟨n,sg,br,w⟩:=k.w
  have w':=Qaf w k.lb o
  obtain ⟨es,gr,_⟩:=k.lb
  exact ⟨k.f.only o fun i oi b=>Qcq k.f gr oi b,k.inv,lb',bk',k.on.trans o fun i hi b=>(JJ gr b).1,k.gl,k.wl,⟨n,sg,br,w'⟩⟩
theorem Alt.blk {h h':H} {W:Nat} {g:FsG} {fs:Fs} {M Q N:Nat} {sure sure0:List Bt} {nw:Bt} {v:AV} {z:Int} (a:Alt z h W g fs M Q sure nw) (r:Lb N h v sure0) (o:Only (ZX v) h h'):Alt z h' W g fs M Q sure nw:=by
  rcases a with ⟨cs,y,d,l,a,b⟩ | ⟨⟨n,sg,w⟩,b,c⟩
  · exact .inl ⟨cs,y,d,⟨Qaf l.w r o,l.o,l.fu⟩,a,b⟩
  · exact .inr ⟨⟨n,sg,Qaf w r o⟩,b,c⟩
theorem blk_keep {h h':H} {v:AV} {N:Nat} {sure:List Bt} (r:Lb N h v sure) (o:Only (ZX v) h h') {X:Nat} {m:Bool} {t:Nat} {cs:List AV} (e:h.get X=.cells m t cs) (ht:t≠40):h'.get X=.cells m t cs:=by
  obtain ⟨es,gr,_⟩:=r
  refine o.at e rfl fun b=>?_
  obtain ⟨m',e'⟩:=NV gr b
  rw [e'] at e;injection e with _ e _;exact ht e.symm
theorem lb_blk {h:H} {v:AV} {N:Nat} {sure:List Bt} (r:Lb N h v sure) {i:Nat} (b:ZX v i):i < h.next:=by
  obtain ⟨es,gr,_⟩:=r
  exact (JJ gr b).2
theorem fuse_is (fs:Fs) (n:Int):(fs.fuse n).2.sure=fs.sure∧(fs.fuse n).2.wait=fs.wait∧(fs.fuse n).2.off=fs.off∧(fs.fuse n).2.room=fs.room∧(fs.fuse n).2.next=fs.next:=by
  unfold Fs.fuse
  split
  · exact ⟨rfl,rfl,rfl,rfl,rfl⟩
  split
  · exact ⟨rfl,rfl,rfl,rfl,rfl⟩
  · exact ⟨rfl,rfl,rfl,rfl,rfl⟩
theorem LgOn.fuse {cs:Cs} {fs:Fs} (o:LgOn cs fs) (n:Int):LgOn cs (fs.fuse n).2:=by
  obtain ⟨a,b,c,d,e⟩:=fuse_is fs n
  exact ⟨⟨by rw [a];exact o.lg.nm1,by rw [a];exact o.lg.nm2,by rw [a];exact o.lg.dat,o.lg.few,d.trans o.lg.room,by rw [a,e];exact o.lg.fresh⟩,b.trans o.w,c.trans o.on⟩
abbrev Li:=AV × List Wt × Bool × Int × Int × Int
def lic (e:Li):List AV:=[e.1,.bool e.2.2.1,.int .i64 e.2.2.2.1,.int .i64 e.2.2.2.2.1,.int .i64 e.2.2.2.2.2]
theorem Qdw (e:Li):(lic e).length=5:=rfl
noncomputable def Qbx (Q:H→Prop):Fun:=fun xs h k=>xs=[]∧Q h∧k (.bool true) h
theorem Sg.nil:Sg [] []:=⟨rfl,fun i h1=>absurd h1 (Nat.not_lt_zero _),fun b hb=>(by cases hb),fun i h1=>absurd h1 (Nat.not_lt_zero _),Nat.zero_le _⟩
section
variable {K2:Int→Int→H→Prop}
theorem t9v (P:Int→Int→H→Prop) (z:Int) {h0 h:H} {W:Nat} {g:FsG} {fs:Fs} {A c:Nat} {cs:Cs} {y:Int} {d:List UInt8} {u v:AV} {l:List Wt} {sure:List Bt} {X:Nat} {xs:List AV} (k:C0 h0 h g fs W v sure A c) (lv:Qed h W g cs y d sure fs) (hA:A+73 * 500000≤Qe) (hc:c≤1000000) (hq:sure.length+1≤1000) (q:RowP wrc 3 h u l) (gX:h.get X=.cells false 34 xs) (hz:fs.fused=true→¬ z < 0)
    (hP:∀ a b h' g' fs' sure',((b≠Int.ofNat 0∧sure'=sure)∨(b=Int.ofNat 0∧a=Int.ofNat (sure.length+1)∧sure'=sure++[(sure.length+1,l)]∧BOk (sure.length+1,l)))→C0 h0 h' g' fs' W v sure (A+73 * 400100) c→h'.get X=.cells false 34 xs→Alt z h' W g' fs' (cs.length+1) (sure.length+1) sure' (sure.length+1,l)→(fs'.fused=true→¬ z < 0)→g'.id=g.id→P a b h')
    (H:∀ a b h',P a b h'→K2 a b h'):T9 (.ptr W 0) u h K2:=by
  have inv:=k.inv
  refine t9 k.f lv.o inv hA hc (by omega) lv.w q (fun h' hne f' o'=>?_) (fun h' g' hce f' w' n'=>?_) (fun h' g' fs' hce f' w' o' i' n' ff=>?_) fun h' g' fs' hce f' w' cx i' n' ff=>?_
  · refine H _ _ _ (hP _ _ _ g fs sure (.inl ⟨hne,rfl⟩) ((k.pure o').mono (by omega) (Nat.le_refl _)) (o'.at gX rfl id) (.inl ⟨cs,y,d,⟨lv.w.nxt (Nxt.pure g o'),lv.o,lv.fu⟩,Nat.le_refl _,by omega⟩) hz rfl)
  · exact H _ _ _ (hP _ _ _ g' fs sure (.inl ⟨(by intro e;cases e),rfl⟩) ((k.step n' f' inv ⟨_,_,_,w'⟩).mono (by omega) (Nat.le_refl _)) (K0 k.f lv.w n' gX (.inl rfl)) (.inl ⟨cs,y,d,⟨w',lv.o,lv.fu⟩,Nat.le_refl _,by omega⟩) hz n'.id)
  · have b := QdS (n := sure.length) hce (by omega)
    exact H _ _ _ (hP _ _ _ g' fs' _ (.inr ⟨rfl,rfl,rfl,b⟩) (k.step n' f' i' ⟨_,_,_,w'⟩) (K0 k.f lv.w n' gX (.inl rfl)) (.inl ⟨cs,y,_,⟨by rw [List.length_append];exact w',o',lv.fu.put hce hq⟩,Nat.le_refl _,by rw [List.length_append];exact Nat.le_refl _⟩) (fun e=>hz (ff ▸ e)) n'.id)
  · refine H _ _ _ (hP _ _ _ g' fs' sure (.inl ⟨(by intro e; cases e), rfl⟩) (k.step n' f' i' ⟨_, _, _, w'⟩) (K0 k.f lv.w n' gX (.inl rfl)) (.inr ⟨⟨_, _, w'⟩, cx.imp fun e he => ?_, ?_⟩) (fun _ => hz ff) n'.id)
    · obtain ⟨p, hp, rfl⟩ := he
      obtain ⟨bs',s',h'⟩:=lv.fu.cut hce hq hp
      refine ⟨bs',s',by rw [List.length_append];exact Nat.le_refl _,?_,h'⟩
      rcases h' with h' | h' <;> rw [h']
      · omega
      · rw [List.length_append];exact Nat.le_refl _
    · exact hz ff
end
theorem t10v {KI : Int → H → Prop} (P : Int → H → Prop) (z : Int) {h0 h : H} {W : Nat} {g : FsG} {fs : Fs} {A c M Q : Nat} {v : AV} {sure : List Bt} {nw : Bt} {X Y : Nat} {xs ys : List AV} (k : C0 h0 h g fs W v sure A c) (al : Alt z h W g fs M Q sure nw) (hA : A + 72 ≤ Qe) (hc : c ≤ Qe) (hM : M + 1 < 99) (gX : h.get X = .cells false 34 xs) (gY : h.get Y = .cells false 40 ys) (hz : fs.fused = true → ¬ z < 0)
    (hP:∀ a h' g' fs',C0 h0 h' g' fs' W v sure (A+73) (c+1)→h'.get X=.cells false 34 xs→h'.get Y=.cells false 40 ys→Alt z h' W g' fs' (M+1) Q sure nw→(fs'.fused=true→¬ z < 0)→g'.id=g.id→P a h')
    (H:∀ a h',P a h'→KI a h'):T10 (.ptr W 0) h KI:=by
  rcases al with ⟨cs,y,d,l,hm,hq⟩ | ⟨⟨n,sg,w⟩,cx,fu⟩
  · have e : (cs ++ [(y, d)]).length = cs.length + 1 := by rw [List.length_append]; rfl
    obtain ⟨bs,sB,eB⟩:=l.fu.sg
    refine t10r (cs:=cs++[(y,d)]) k.f l.o k.inv hA hc (by omega) (by rw [e];exact l.w) (fun h' g' fs' x f' w' o' i' n' ff=>?_) fun h' g' fs' x f' w' cx i' n' ff=>?_
    · refine H _ _ (hP _ _ g' fs' (k.step n' f' i' ⟨_, _, _, w'⟩) (K0 k.f l.w n' gX (.inl rfl)) (K0 k.f l.w n' gY (.inr rfl)) (.inl ⟨cs ++ [(y, d)], x, [], ⟨w', o', ?_⟩, by omega, hq⟩) (fun e => hz (ff ▸ e)) n'.id)
      have:=sB.add x
      rw [eB] at this;exact this
    · refine H _ _ (hP _ _ g' fs' (k.step n' f' i' ⟨_, _, _, w'⟩) (K0 k.f l.w n' gX (.inl rfl)) (K0 k.f l.w n' gY (.inr rfl)) (.inr ⟨⟨_, _, w'⟩, cx.imp fun e' he => ?_, hz ff⟩) (fun _ => hz ff) n'.id)
      rcases he with rfl | rfl
      · exact ⟨bs,sB,by omega,by rw [eB];exact hq,.inl eB⟩
      · obtain ⟨bs', sB', eB'⟩ := (sB.add x).sg
        exact ⟨bs',sB',by rw [List.length_append];show (cs++[(y,d)]).length+1≤_;omega,by rw [eB',eB];exact hq,.inl (eB'.trans eB)⟩
  · refine t10b w fun h' w' o' => ?_
    have n':NxtX (isW W) h g h' g:=NxtX.put g o' fun _ c=>c
    refine H _ _ (hP _ _ g fs ((k.step n' (FsAt.putW k.f w.not o') k.inv ⟨_,_,_,w'⟩).mono (by omega) (by omega)) (K0 k.f w n' gX (.inl rfl)) (K0 k.f w n' gY (.inr rfl)) (.inr ⟨⟨_,_,w'⟩,cx.imp fun e' he=>?_,fu⟩) hz rfl)
    obtain ⟨bs,a,b,c,d⟩:=he
    exact ⟨bs,a,by omega,c,d⟩
theorem Alt.mono {h:H} {W:Nat} {g:FsG} {fs:Fs} {M Q M' Q':Nat} {sure:List Bt} {nw:Bt} {z:Int} (a:Alt z h W g fs M Q sure nw) (hM:M≤M') (hQ:Q≤Q'):Alt z h W g fs M' Q' sure nw:=by
  rcases a with ⟨cs,y,d,l,a,b⟩ | ⟨w,b,c⟩
  · exact .inl ⟨cs,y,d,l,by omega,by omega⟩
  · refine .inr ⟨w, b.imp fun e he => ?_, c⟩
    obtain ⟨bs,h1,h2,h3,h4⟩:=he
    exact ⟨bs,h1,by omega,by omega,h4⟩
theorem QdT {b:Bt} (h:BOk b):b.2.length≤140737488351232:=by
  obtain ⟨_,c1,c2,_⟩:=QaQ h.2.2.1
  omega
end Go.Proofs.YtbcfpeelkaoljaaDoor
