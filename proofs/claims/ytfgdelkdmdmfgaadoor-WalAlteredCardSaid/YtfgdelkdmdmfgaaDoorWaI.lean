import Derived.Test.YtfgdelkdmdmfgaaDoorWaF
namespace Go.Am
open Go
set_option linter.all false
def CK (h h':H):Prop:=∀ (id:Nat) (m:Bool) (t:Nat) (cs:List AV),h.get id=.cells m t cs→h'.get id=.cells m t cs
theorem CK.refl (h:H):CK h h:=fun _ _ _ _ e=>e
theorem CK.trans {h h1 h2:H} (a:CK h h1) (b:CK h1 h2):CK h h2:=fun id m t cs e=>b id m t cs (a id m t cs e)
theorem CK.low {h h':H} {n:Nat} (l:Low n h h') (hn:h.next≤n):CK h h':=fun id m t cs e=>(l.get id (Nat.lt_of_lt_of_le (H.lt_of_live (by rw [e];rfl)) hn)).trans e
theorem CK.push (h:H) (b:Blk):CK h (QI h b):=CK.low (Low.push h.next h b (Nat.le_refl _)) (Nat.le_refl _)
theorem CK.put (h:H) {i:Nat} {b:Blk} (hi:i < h.next) (hn:∀ (m:Bool) (t:Nat) (cs:List AV),h.get i≠.cells m t cs):CK h (Zt h i b):=fun id m t cs e=>by
  rw [QU _ _ _ hi,if_neg (by rintro rfl;exact hn m t cs e)];exact e
theorem Qb4 {g : Bool} {kd : Kd} {e n : Nat} {h : H} {v x : AV} {l m : List UInt8} {k : AV → H → Prop} (r : Row g e n h v l) (hb : h.base ≤ n) (hn : n ≤ h.next)
    (hx:∀ f:Str→Prop,Qb9 kd x h f=f (Str.of m)) (hl:l.length+m.length≤Qe) (hk:∀ v' h',Row g e n h' v' (l++m)→Low n h h'→CK h h'→k v' h'):apB kd e v x h k:=by
  unfold apB
  rw [hx]
  rcases r with ⟨rfl,rfl⟩ | ⟨id,ex,sg,rfl,r2,r3,r4,r5⟩
  · rw [W9, Ws]
    refine QP (fun h0=>?_) fun h0=>Qp ?_ ?_
    · rw [Nat.beq_eq] at h0
      obtain rfl:=List.length_eq_zero_iff.1 h0
      exact hk _ _ (Row.nil g e n h) (Low.refl n h) (CK.refl h)
    · rw [Qk];simpa using hl
    · rw [QW]
      exact hk _ _ (Row.push false false hn (fun _=>rfl)) (Low.push n h _ hn) (CK.push h _)
  · rw [Zu, r4, WQ, Zb, Zb, Ws]
    refine QP (fun h0=>?_) fun h0=>?_
    · have h0 : l.length + m.length ≤ l.length := (Qk _ _).1 h0
      obtain rfl:m=[]:=List.length_eq_zero_iff.1 (by omega)
      exact hk _ _ (by rw [List.append_nil];exact .inr ⟨id,ex,sg,rfl,r2,r3,r4,r5⟩) (Low.refl n h) (CK.refl h)
    · refine Qp (by rw [Qk]; exact hl) (Qp (by rw [Qk]; show 0 + l.length ≤ l.length; omega) ?_)
      rw [Vt]
      have e1:((Str.of l).sub 0 (Nat.add 0 l.length)).cat (Str.of m)=Str.of (l++m):=by
        show ((Str.of l).sub 0 (0+l.length)).cat (Str.of m)=_
        rw [Str.sub_of l 0 _ (by omega) (by omega),Str.cat_of]
        congr 2;simp
      rw [e1]
      have e2:Nat.add l.length m.length=(l++m).length:=by simp
      rw [e2]
      refine QP (fun _=>?_) fun _=>?_
      · rw [QW]
        exact hk _ _ (Row.push false false hn (fun _=>rfl)) (Low.push n h _ hn) (CK.push h _)
      · refine Qp rfl (Qp (by rw [Nat.beq_eq]) (Qp ?_ ?_))
        · show apB.br' _ _ _ = true
          unfold apB.br'
          cases Nat.blt 0 l.length
          · rfl
          · show Nat.ble 0 _ = true
            rw [Qk];exact Nat.zero_le _
        · rw [YX _ r3 (by omega), QW]
          have h1:=Low.put (n:=n) (h:=h) .dead r3 r2
          have h2:=Low.push n (Zt h id .dead) (.bytes e 0 sg (Str.of (l++m))) hn
          exact hk _ _ (Row.push sg false hn r5) (h1.trans h2) ((CK.put h r3 (by rw [r4];intro m t cs e;cases e)).trans (CK.push _ _))
end Go.Am
namespace Go.Proofs.YtfgdelkdmdmfgaaDoor
open Go Go.Am
set_option linter.all false
set_option maxRecDepth 100000
def WP (t:Wt):List UInt8:=if t.2.2=true then 1::(uv t.1.length++t.1) else 0::(uv t.1.length++t.1++(uv t.2.1.length++t.2.1))
def YK (s:Nat) (l:List Wt):List UInt8:=uv s++uv l.length++l.flatMap WP
def Qcr (q:Int) (l:List Wt):Int:=if q < 1∨1073741824 < q then Int.ofNat 2 else Y6 l
def QdV (q:Int) (l:List Wt):List UInt8:=if Qcr q l=Int.ofNat 0 then YK q.toNat l else []
theorem QaI {t:Wt} (h:YS t=true):t.1≠[]∧t.1.length≤512∧t.2.1.length≤4096∧(t.2.2=true→t.2.1=[]):=by
  unfold YS at h
  simp only [Bool.and_eq_true,Bool.not_eq_true',decide_eq_false_iff_not,Bool.or_eq_true,decide_eq_true_eq] at h
  obtain ⟨h1,h2,h3,h4⟩:=h
  refine ⟨h1,by omega,by omega,fun hd=>?_⟩
  rcases h4 with h4 | h4
  · rw [hd] at h4;cases h4
  · exact h4
theorem Qct {l:List Wt} (h:Y6 l=Int.ofNat 0):l≠[]∧l.length≤64∧(∀ (j:Nat) (hj:j < l.length),YS l[j]=true)∧(Gk l).Nodup:=by
  unfold Y6 at h
  split at h
  · cases h
  rename_i h0
  split at h
  · cases h
  rename_i h1
  split at h
  · rename_i h2
    split at h
    · rename_i h3
      exact ⟨h0,by omega,fun j hj=>List.all_eq_true.1 h2 _ (List.getElem_mem hj),h3⟩
    · cases h
  · cases h
theorem DV (l:List Wt):Y6 l=Int.ofNat 0∨eqI (Y6 l) (Int.ofNat 0)=false:=by
  unfold Y6
  split
  · exact .inr rfl
  split
  · exact .inr rfl
  split
  · split
    · exact .inl rfl
    · exact .inr rfl
  · exact .inr rfl
theorem encW_len {t:Wt} (h:YS t=true):(WP t).length≤5000:=by
  obtain ⟨_,h1,h2,_⟩:=QaI h
  have u1:=JX (x:=t.1.length) (by omega)
  have u2:=JX (x:=t.2.1.length) (by omega)
  unfold WP
  split
  · simp only [List.length_cons,List.length_append];omega
  · simp only [List.length_cons,List.length_append];omega
theorem QbP:∀ {l:List Wt},(∀ t∈l,YS t=true)→(l.flatMap WP).length≤l.length * 5000
  | [],_=>by simp
  | t :: l, h => by
    have h1:=encW_len (h t (by simp))
    have h2:=QbP (l:=l) fun x hx=>h x (by simp [hx])
    rw [List.flatMap_cons,List.length_append,List.length_cons,Nat.add_mul];omega
theorem Kw (s:Str):AV.same (.str s) (.str s)=true:=by simp [AV.same]
theorem mem_take_fine {l:List Wt} (ha:∀ (j:Nat) (hj:j < l.length),YS l[j]=true) (i:Nat):∀ t∈l.take i,YS t=true:=fun t ht=>by
  obtain ⟨j,hj,rfl⟩:=List.getElem_of_mem (List.mem_of_mem_take ht)
  exact ha j hj
def preB (s:Nat) (l:List Wt) (i:Nat):List UInt8:=uv s++uv l.length++(l.take i).flatMap WP
theorem Qbn {s:Nat} {l:List Wt} (hs:s≤1073741824) (hl:l.length≤64) (ha:∀ (j:Nat) (hj:j < l.length),YS l[j]=true) (i:Nat):(preB s l i).length≤400000:=by
  have u1:=JX (x:=s) (by omega)
  have u2:=JX (x:=l.length) (by omega)
  have h:=QbP (mem_take_fine ha i)
  have:(l.take i).length * 5000≤64 * 5000:=Nat.mul_le_mul_right _ (by rw [List.length_take];omega)
  unfold preB
  simp only [List.length_append];omega
theorem Dl {s:Nat} {l:List Wt} {i:Nat} (hi:i < l.length):preB s l (i+1)=preB s l i++WP l[i]:=by
  unfold preB
  rw [List.take_succ_eq_append_getElem hi,List.flatMap_append,List.flatMap_cons,List.flatMap_nil,List.append_nil]
  simp only [List.append_assoc]
theorem preB_all (s:Nat) (l:List Wt):preB s l l.length=YK s l:=by unfold preB YK;rw [List.take_length]
theorem preB_zero (s:Nat) (l:List Wt):preB s l 0=uv s++uv l.length:=by unfold preB;simp
theorem lit1 (c:UInt8):Wd true 5 [.int .u8 (Int.ofNat c.toNat)]=some (.bytes 5 0 false (Str.of [c])):=X1 5 [c]
section
variable {KE:AV→Int→H→Prop}
theorem QbQ {q:Int} {l:List Wt} (h:Qcr q l≠Int.ofNat 0):QdV q l=[]:=if_neg h
theorem t8 {q : Int} {l : List Wt} {v : AV} {h : H} (r : RowP wrc 3 h v l) (hb : h.base ≤ h.next) (hk : ∀ v' h', Row true 5 h.next h' v' (QdV q l) → Low h.next h h' → KE v' (Qcr q l) h') :
    Qei J0 (s9G J0 (Nb J0)) (Qaj J0) (QdO J0 (Qaj J0)) (.agg [.int .i64 q,v]) h KE:=by
  unfold Qei
  rw [ZZ,QW]
  have lo:=Low.push h.next h (.cells false 62 [.int .i64 q,v]) (Nat.le_refl _)
  have g:=WU h (.cells false 62 [.int .i64 q,v])
  have n2:(QI h (.cells false 62 [.int .i64 q,v])).next=h.next+1:=rfl
  generalize QI h (.cells false 62 [.int .i64 q,v])=h2 at g lo n2 ⊢
  have b2:=lo.base
  have L1:∀ k,ldI .i64 (.ptr h.next 0) h2 k=k q:=fun k=>Q9 g rfl k
  have bad:(q < 1∨1073741824 < q)→KE .nils (Int.ofNat 2) h2:=fun hq=>by
    have e:Qcr q l=Int.ofNat 2:=if_pos hq
    have:=hk .nils h2 (by rw [QbQ (by rw [e];decide)];exact .nil _ _ _ _) lo
    rw [e] at this;exact this
  rw [L1,Qg]
  cases hq1:ltI q (Int.ofNat 1)
  rotate_left
  · simp only [↓Qq, ↓QO, ↓Qr, ↓QS, ↓QF, ↓Qm]
    exact bad (.inl (WK.1 hq1))
  cases hq2:ltI (Int.ofNat 1073741824) q
  rotate_left
  · simp only [↓Qq, ↓QO, ↓Qr, ↓QS, ↓QF, ↓Qm, ↓L1, ↓Qa, ↓Qg, ↓hq2]
    exact bad (.inr (WK.1 hq2))
  simp only [↓Qq,↓QO,↓Qr,↓QS,↓QF,↓Qm,↓L1,↓Qa,↓Qg,↓hq2]
  have q1:1≤q:=Ys.1 hq1
  have q2:q≤1073741824:=Ys.1 hq2
  have ee:Qcr q l=Y6 l:=if_neg (by omega)
  rw [Q1 g (o:=1) (v:=v) rfl]
  refine t14 (r.low lo (Nat.le_refl _)) (by omega) fun h3 l3=>?_
  have lo3:=lo.trans (l3.down (by omega))
  have g3:=(l3.get _ (by omega)).trans g
  rcases DV l with hc | hc
  rotate_left
  · rw [hc, Bool.not_false, QO]
    have:=hk .nils h3 (by rw [QbQ (by rw [ee];intro e;rw [e] at hc;cases hc)];exact .nil _ _ _ _) lo3
    rw [ee] at this;exact this
  obtain ⟨c0,c1,c2,c3⟩:=Qct hc
  obtain ⟨s,rfl⟩:∃ s:Nat,q=Int.ofNat s:=⟨q.toNat,by show q=((q.toNat:Nat):Int);omega⟩
  have hs':s≤1073741824:=by have:(s:Int)≤1073741824:=q2;omega
  have ev:QdV (Int.ofNat s) l=YK s l:=by unfold QdV;rw [ee,if_pos hc];rfl
  rw [ev] at hk
  rw [ee,hc] at hk
  rw [hc,show Bool.not (eqI (Int.ofNat 0) (Int.ofNat 0))=false from rfl,Qr,Q9 g3 (o:=0) (x:=Int.ofNat s) rfl,Qo,Zi (kk:=.u64) (by show s < 18446744073709551616;omega)]
  have n3:=l3.next
  have b3:=l3.base
  refine t27 (by omega) (SlB.nil h3) (by omega) (Nat.zero_le _) fun v4 h4 r4 l4=>?_
  have g4:=(l4.get _ (by omega)).trans g3
  have n4:=l4.next
  have b4:=l4.base
  have lo4:=lo3.trans (l4.down (by omega))
  have rp4:=(r.low lo4 (Nat.le_refl _))
  rw [Q1 g4 (o:=1) (v:=v) rfl,rp4.len,Qo,Zi (kk:=.u64) (by show l.length < 18446744073709551616;omega)]
  have u1:=JX (x:=s) (by omega)
  refine t27 (by omega) r4.slb (by omega) (by simp;omega) fun v5 h5 r5 l5=>?_
  have g5:=(l5.get _ (by omega)).trans g4
  have n5:=l5.next
  have b5:=l5.base
  have lo5:=lo4.trans (l5.down (by omega))
  have rp5:=(r.low lo5 (Nat.le_refl _))
  rw [Q1 g5 (o:=1) (v:=v) rfl,rp5.len]
  refine YA l.length (fun i x h'=>∃ row,x=(row,v,.int .i64 (Int.ofNat l.length),.int .i64 (Int.ofNat i),())∧Low h.next h h'∧Row true 5 h.next h' row (preB s l i)) (by omega) ?_ ?_
    ⟨v5,rfl,lo5,by rw [preB_zero];exact (r5.down (by omega))⟩
  · rintro i x h6 self hi ⟨row, rfl, lo6, r6⟩ hs
    have n6:=lo6.next
    have b6:=lo6.base
    have pl:=Qbn hs' c1 c2 i
    obtain ⟨id,o,p1,p2,_,_⟩:=(r.low lo6 (Nat.le_refl _)).rd Js hi
    obtain ⟨_,k1,k2,_⟩:=QaI (c2 i hi)
    dsimp only
    rw [Qa,Qa,ZA hi,QO]
    refine NE (fun v' d' h'=>∃ row',v'=(row',v,.int .i64 (Int.ofNat l.length),.int .i64 (Int.ofNat i),())∧d'=[]∧Low h.next h h'∧Row true 5 h.next h' row' (preB s l (i+1))) (fun j hj=>?_) ?_
    · rw [p1, p2 h6 _ (fun _ _ => rfl), QW, QcN (by omega)]
      have g7:=WU h6 (.cells false 48 (wrc l[i]))
      have l7:=Low.push h6.next h6 (.cells false 48 (wrc l[i])) (Nat.le_refl _)
      have n7:(QI h6 (.cells false 48 (wrc l[i]))).next=h6.next+1:=rfl
      generalize QI h6 (.cells false 48 (wrc l[i]))=h7 at g7 l7 n7 ⊢
      have b7:=l7.base
      have r7:=r6.low l7 (Nat.le_refl _)
      rw [Wv g7 (o:=2) (x:=l[i].2.2) rfl]
      have lit:∀ c:UInt8,Row true 5 h7.next (QI h7 (.bytes 5 0 false (Str.of [c]))) (.slice h7.next 0 1 1 1 true) [c]:=fun c=>Row.push (l:=[c]) false true (Nat.le_refl _)
      have e1:Wd true 5 [.int .u8 (Int.ofNat 1)]=some (.bytes 5 0 false (Str.of [1])):=lit1 1
      have e0:Wd true 5 [.int .u8 (Int.ofNat 0)]=some (.bytes 5 0 false (Str.of [0])):=lit1 0
      cases hd:l[i].2.2
      · rw [Qr, e0, Qy, QW]
        have l8:=Low.push h7.next h7 (.bytes 5 0 false (Str.of [0])) (Nat.le_refl _)
        have g8:=(l8.get _ (by omega)).trans g7
        have n8:=l8.next
        have b8:=l8.base
        rw [YP g8 (o:=0) (x:=Str.of l[i].1) rfl]
        refine Qb4 (r7.low l8 (Nat.le_refl _)) (by omega) (by omega) (fun f=>VY (lit 0) f) (by simp [Qe];omega) fun v9 h9 r9 l9 ck9=>?_
        have g9:=ck9 _ _ _ _ g8
        have n9:=l9.next
        have b9:=l9.base
        refine Qp (Zy (Z1 g9) (Kw _)) ?_
        refine t28 r9.slb (by omega) (by simp;omega) (by omega) fun v10 h10 r10 l10=>?_
        have g10:=(l10.get _ (H.lt_of_live (by rw [g9];rfl))).trans g9
        have n10:=l10.next
        have b10:=l10.base
        rw [YP g10 (o:=1) (x:=Str.of l[i].2.1) rfl]
        have u1:=JX (x:=l[i].1.length) (by omega)
        refine t28 r10.slb (by omega) (by simp;omega) (by omega) fun v11 h11 r11 l11=>?_
        refine hj _ _ _ ⟨v11,rfl,rfl,(((lo6.trans (l7.down (by omega))).trans (l8.down (by omega))).trans l9).trans ((l10.down (by omega)).trans (l11.down (by omega))),?_⟩
        have:=r11.down (m:=h.next) (by omega)
        rw [Dl hi]
        have ew:WP l[i]=0::(uv l[i].1.length++l[i].1++(uv l[i].2.1.length++l[i].2.1)):=by unfold WP;rw [if_neg (by rw [hd];decide)]
        rw [ew]
        simpa using this
      · rw [QO, e1, Qy, QW]
        have l8:=Low.push h7.next h7 (.bytes 5 0 false (Str.of [1])) (Nat.le_refl _)
        have g8:=(l8.get _ (by omega)).trans g7
        have n8:=l8.next
        have b8:=l8.base
        rw [YP g8 (o:=0) (x:=Str.of l[i].1) rfl]
        refine Qb4 (r7.low l8 (Nat.le_refl _)) (by omega) (by omega) (fun f=>VY (lit 1) f) (by simp [Qe];omega) fun v9 h9 r9 l9 ck9=>?_
        have g9:=ck9 _ _ _ _ g8
        have n9:=l9.next
        have b9:=l9.base
        refine Qp (Zy (Z1 g9) (Kw _)) ?_
        refine t28 r9.slb (by omega) (by simp;omega) (by omega) fun v10 h10 r10 l10=>?_
        refine hj _ _ _ ⟨v10,rfl,rfl,(((lo6.trans (l7.down (by omega))).trans (l8.down (by omega))).trans l9).trans (l10.down (by omega)),?_⟩
        have:=r10.down (m:=h.next) (by omega)
        rw [Dl hi]
        have ew:WP l[i]=1::(uv l[i].1.length++l[i].1):=by unfold WP;rw [if_pos hd]
        rw [ew]
        simpa using this
    · rintro _ _ h7 ⟨row', rfl, rfl, lo7, r7⟩
      dsimp only
      rw [Qa,Qo,Ud i (by omega)]
      exact hs _ _ ⟨row',rfl,lo7,r7⟩
  · rintro x h6 self ⟨row, rfl, lo6, r6⟩
    dsimp only
    rw [Qa,Qa,Za (Nat.le_refl _),Qr]
    exact hk _ _ (by rw [← preB_all];exact r6) lo6
end
end Go.Proofs.YtfgdelkdmdmfgaaDoor
namespace Go.Proofs.YtfgdelkdmdmfgaaDoor
open Go Go.Am
set_option linter.all false
set_option maxRecDepth 100000
section
variable {KE:AV→Int→H→Prop}
end
end Go.Proofs.YtfgdelkdmdmfgaaDoor
namespace Go.Proofs.YtfgdelkdmdmfgaaDoor
open Go Go.Am
set_option linter.all false
set_option maxRecDepth 100000
open Classical in
noncomputable def N6 (b:List UInt8) (mo:Nat):Option (Nat × List UInt8):=if h:∃ p:Nat × List UInt8,p.1≤mo∧b=uv p.1++p.2 then some h.choose else none
theorem Xu {v mo:Nat} {tail:List UInt8} (h:v≤mo):N6 (uv v++tail) mo=some (v,tail):=by
  unfold N6
  have hh:∃ p:Nat × List UInt8,p.1≤mo∧uv v++tail=uv p.1++p.2:=⟨(v,tail),h,rfl⟩
  rw [dif_pos hh]
  obtain ⟨_,h2⟩:=hh.choose_spec
  obtain ⟨e1,e2⟩:=Qd3 h2
  congr 1
  exact Prod.ext e1.symm e2.symm
theorem numO_none {b:List UInt8} {mo:Nat} (h:∀ (v:Nat) (tail:List UInt8),v≤mo→b=uv v++tail→False):N6 b mo=none:=by
  unfold N6
  rw [dif_neg]
  rintro ⟨p,h1,h2⟩
  exact h p.1 p.2 h1 h2
theorem smq_num {b:List UInt8} {mo:Nat} {x m e:Int} (h:SmQ b mo x m e):(∃ (v k:Nat),k≤b.length∧N6 b mo=some (v,b.drop k)∧v≤mo∧x=Int.ofNat v∧m=Int.ofNat k∧e=Int.ofNat 0)∨(N6 b mo=none∧x=Int.ofNat 0∧m=Int.ofNat 0∧e=Int.ofNat 5):=by
  rcases h with ⟨v,tail,h1,rfl,rfl,rfl,rfl⟩ | ⟨hn,rfl,rfl,rfl⟩
  · exact .inl ⟨v,(uv v).length,by simp,by rw [Xu h1,List.drop_left],h1,rfl,rfl,rfl⟩
  · exact .inr ⟨numO_none hn,rfl,rfl,rfl⟩
abbrev St:=List UInt8 × Bool
noncomputable def QM (mo:Nat) (s:St):Nat × St:=if s.2=true then (0,s) else match N6 s.1 mo with
  | some p=>(p.1,(p.2,false))
  | none=>(0,(s.1,true))
noncomputable def Zv (mo:Nat) (s:St):List UInt8 × St :=
  if (QM mo s).2.2=true∨(QM mo s).2.1.length < (QM mo s).1 then ([],((QM mo s).2.1,true)) else ((QM mo s).2.1.take (QM mo s).1,((QM mo s).2.1.drop (QM mo s).1,false))
def UB (b:Bool):Int:=cond b (Int.ofNat 5) (Int.ofNat 0)
theorem Qc6 {b:List UInt8} {mo:Nat} {p:Nat × List UInt8} (h:N6 b mo=some p):p.1≤mo∧p.2.length≤b.length:=by
  unfold N6 at h
  split at h
  · rename_i hh
    injection h with h;subst h
    obtain ⟨h1,h2⟩:=hh.choose_spec
    have:=congrArg List.length h2
    rw [List.length_append] at this
    exact ⟨h1,by omega⟩
  · cases h
theorem VZ (mo:Nat) (s:St):(QM mo s).2.1.length≤s.1.length∧(QM mo s).1≤mo:=by
  unfold QM
  split
  · exact ⟨Nat.le_refl _,Nat.zero_le _⟩
  · split
    · rename_i p hp
      exact ⟨(Qc6 hp).2,(Qc6 hp).1⟩
    · exact ⟨Nat.le_refl _,Nat.zero_le _⟩
theorem Qa3 (mo:Nat) (s:St):(Zv mo s).2.1.length≤s.1.length∧(Zv mo s).1.length≤mo:=by
  obtain ⟨h1,h2⟩:=VZ mo s
  unfold Zv
  split
  · exact ⟨h1,Nat.zero_le _⟩
  · refine ⟨?_, ?_⟩
    · show ((QM mo s).2.1.drop _).length ≤ _
      rw [List.length_drop];omega
    · show ((QM mo s).2.1.take _).length ≤ _
      rw [List.length_take];omega
structure Upd (i:Nat) (h h':H):Prop where
  next:h'.next=h.next
  base:h'.base=h.base
  get:∀ j,j≠i→h'.get j=h.get j
theorem Upd.refl (i:Nat) (h:H):Upd i h h:=⟨rfl,rfl,fun _ _=>rfl⟩
theorem Upd.trans {i:Nat} {h h1 h2:H} (a:Upd i h h1) (b:Upd i h1 h2):Upd i h h2:=⟨b.next.trans a.next,b.base.trans a.base,fun j hj=>(b.get j hj).trans (a.get j hj)⟩
theorem Upd.put {i:Nat} {h:H} (b:Blk) (hi:i < h.next):Upd i h (Zt h i b):=⟨rfl,rfl,fun j hj=>by rw [QU _ _ _ hi,if_neg hj]⟩
theorem Upd.low {i n:Nat} {h h':H} (u:Upd i h h') (hn:n≤i):Low n h h':=⟨u.base,by rw [u.next];exact Nat.le_refl _,fun j hj=>u.get j (by omega)⟩
theorem slb_upd {i:Nat} {h h':H} {v:AV} {b:List UInt8} (s:SlB h v b) (u:Upd i h h') (hc:∀ (t f:Nat) (g:Bool) (x:Str),h.get i≠.bytes t f g x):SlB h' v b :=
  s.same fun id t f g x e=>u.get id (by rintro rfl;exact hc _ _ _ _ e)
theorem Ku {i:Nat} {h h':H} {v:AV} {b:List UInt8} {m:Bool} {t:Nat} {cs:List AV} (s:SlB h v b) (u:Upd i h h') (g:h.get i=.cells m t cs):SlB h' v b :=
  slb_upd s u fun _ _ _ _ e=>by rw [g] at e;cases e
def Kl (h:H) (id:Nat) (s:St):Prop:=∃ v,h.get id=.cells false 111 [v,.int .i64 (UB s.2)]∧SlB h v s.1
section
variable {KI:Int→H→Prop} {KS:Str→H→Prop}
theorem GO (b:Bool):eqI (UB b) (Int.ofNat 0) = !b:=by cases b <;> rfl
theorem t32 {h : H} {id mo : Nat} {s : St} (q : Kl h id s) (hid : id < h.next) (hb : h.base ≤ id) (hl : s.1.length ≤ 140737488351232) (hmo : mo < 9223372036854775808) (hk : ∀ h', Kl h' id (QM mo s).2 → Upd id h h' → KI (Int.ofNat (QM mo s).1) h') :
    N3 J0 (G8 J0 (Gs J0)) (.ptr id 0) (Int.ofNat mo) h KI:=by
  obtain ⟨v,g,sb⟩:=q
  unfold N3
  rw [QR,Qw,Q9 g (o:=Nat.add 0 1) (x:=UB s.2) rfl,Qg,GO]
  obtain ⟨rest,bad⟩:=s
  cases bad with
  | true =>
    show KI _ _
    exact hk h ⟨v,g,sb⟩ (.refl _ _)
  | false =>
    show br false _ _
    rw [Qr,QR,Qw,Q1 g (o:=Nat.add 0 0) (v:=v) rfl]
    refine t51 sb hl hmo fun x m e hS=>?_
    rw [QR,Qw,Q1 g (o:=Nat.add 0 0) (v:=v) rfl]
    have fin:∀ (k:Nat) (hk2:k≤rest.length) (x:Nat) (b:Bool),QM mo (rest,false)=(x,(rest.drop k,b)) →
        slK 1 v (some (.int .i64 (Int.ofNat k))) none (fun v12=>QQ (.ptr id 0) (faK 0 (.ptr id 0) fun p13=>stV p13 v12 h fun h14=>QQ (.ptr id 0) (faK 1 (.ptr id 0) fun p15=>stV p15 (.int .i64 (UB b)) h14 fun h16=>KI (Int.ofNat x) h16))):=fun k hk2 x b e=>by
      refine sb.tail hk2 fun v' s'=>?_
      have u1:=Upd.put (h:=h) (.cells false 111 [v',.int .i64 (UB false)]) hid
      rw [QR,Qw,JY (o:=Nat.add 0 0) g s'.one rfl hid hb,QR,Qw]
      have g1:(Zt h id (.cells false 111 [v',.int .i64 (UB false)])).get id=.cells false 111 [v',.int .i64 (UB false)]:=by rw [QU _ _ _ hid,if_pos rfl]
      have hid1:id < (Zt h id (.cells false 111 [v',.int .i64 (UB false)])).next:=hid
      show stV _ _ (Zt h id (.cells false 111 [v',.int .i64 (UB false)])) _
      have sb1:=Ku s' u1 g
      generalize Zt h id (.cells false 111 [v',.int .i64 (UB false)])=h1 at u1 g1 hid1 sb1 ⊢
      rw [JY (o:=Nat.add 0 1) g1 (x:=.int .i64 (UB b)) rfl rfl hid1 (by rw [u1.base];exact hb)]
      have u2:=Upd.put (h:=h1) (.cells false 111 [v',.int .i64 (UB b)]) hid1
      have:=hk (Zt h1 id (.cells false 111 [v',.int .i64 (UB b)]))
      rw [e] at this
      exact this ⟨v',by rw [QU _ _ _ hid1,if_pos rfl],Ku sb1 u2 g1⟩ (u1.trans u2)
    rcases smq_num hS with ⟨x,k,h1,h2,h3,rfl,rfl,rfl⟩ | ⟨h2,rfl,rfl,rfl⟩
    · exact fin k h1 x false (by unfold QM;rw [if_neg (by simp)];simp only [h2])
    · exact fin 0 (Nat.zero_le _) 0 true (by unfold QM;rw [if_neg (by simp)];simp only [h2,List.drop_zero])
theorem t33 {h:H} {id mo:Nat} {s:St} (q:Kl h id s) (hid:id < h.next) (hb:h.base≤id) (hl:s.1.length≤140737488351232) (hmo:mo < 9223372036854775808) (hk:∀ h',Kl h' id (Zv mo s).2→Upd id h h'→KS (Str.of (Zv mo s).1) h') :
    Qcb J0 (N3 J0 (G8 J0 (Gs J0))) (.ptr id 0) (Int.ofNat mo) h KS:=by
  unfold Qcb
  refine t32 q hid hb hl hmo fun h1 q1 u1=>?_
  obtain ⟨l1,l2⟩:=VZ mo s
  unfold Zv at hk
  generalize QM mo s=r at q1 hk l1 l2 ⊢
  obtain ⟨n,rest,bad⟩:=r
  have l1:rest.length≤s.1.length:=l1
  have l2:n≤mo:=l2
  obtain ⟨v,g',sb'⟩:=q1
  have sb:SlB h1 v rest:=sb'
  have g:h1.get id=.cells false 111 [v,.int .i64 (UB bad)]:=g'
  clear g' sb'
  have hid1:id < h1.next:=by rw [u1.next];exact hid
  have hb1:h1.base≤id:=by rw [u1.base];exact hb
  rw [QR,Qw,Q9 g (o:=Nat.add 0 1) (x:=UB bad) rfl,Qg,GO,Bool.not_not]
  have none1:(bad=true∨rest.length < n)→stV (.ptr id (Nat.add 0 1)) (.int .i64 (Int.ofNat 5)) h1 fun h35=>KS ⟨0,0⟩ h35:=fun hc=>by
    rw [JY (o:=Nat.add 0 1) g (x:=.int .i64 (Int.ofNat 5)) rfl rfl hid1 hb1]
    have u2:=Upd.put (h:=h1) (.cells false 111 [v,.int .i64 (Int.ofNat 5)]) hid1
    have:=hk (Zt h1 id (.cells false 111 [v,.int .i64 (Int.ofNat 5)]))
    rw [if_pos hc] at this
    exact this ⟨v,by rw [QU _ _ _ hid1,if_pos rfl];rfl,Ku sb u2 g⟩ (u1.trans u2)
  cases bad with
  | true =>
    simp only [↓Qq,↓QO,↓Qr,↓QS,↓QF,↓Qm,↓QR,↓Qw]
    exact none1 (.inl rfl)
  | false =>
    have L0:∀ k,ldV (.ptr id (Nat.add 0 0)) h1 k=k v:=fun k=>Q1 g rfl k
    have LL:=sb.len
    simp only [↓Qq,↓QO,↓Qr,↓QS,↓QF,↓Qm,↓QR,↓Qw,↓L0,↓LL,↓Qa,↓Qg,ZI]
    by_cases hc:rest.length < n
    · rw [decide_eq_true hc, QO]
      exact none1 (.inr hc)
    · rw [decide_eq_false hc, Qr]
      refine sb.head (by omega) fun v1 s1=>?_
      rw [s1.str]
      refine sb.tail (by omega) fun v2 s2=>?_
      rw [JY (o:=Nat.add 0 0) g s2.one rfl hid1 hb1]
      have u2:=Upd.put (h:=h1) (.cells false 111 [v2,.int .i64 (UB false)]) hid1
      have:=hk (Zt h1 id (.cells false 111 [v2,.int .i64 (UB false)]))
      rw [if_neg (by rintro (h | h);cases h;exact hc h)] at this
      exact this ⟨v2,by rw [QU _ _ _ hid1,if_pos rfl],Ku s2 u2 g⟩ (u1.trans u2)
end
end Go.Proofs.YtfgdelkdmdmfgaaDoor
